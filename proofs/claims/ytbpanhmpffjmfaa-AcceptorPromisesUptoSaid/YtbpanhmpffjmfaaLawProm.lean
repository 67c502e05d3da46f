/- PROVED: a promise holds (AcceptorPromises): for arguments of bulk at most 1048576, the law returns true, and each argument reads behind the call as it read before. -/
import Derived.Test.YtbpanhmpffjmfaaRead10
import Derived.Test.YtbpanhmpffjmfaaAccLive
import Derived.Test.YtbpanhmpffjmfaaPromPlain
import Derived.Deep.DeepCutAuto
set_option linter.unusedVariables false
set_option linter.unusedSimpArgs false
namespace Go.Proofs.Ytbpanhmpffjmfaa
open Go.RowKit Go.WideShapes Go.ChangeShapes Go.ChangeAt Go.Tk

theorem Tab.of_heap {w w' : World} {tb mb : Nat} {most : Int} {m : Rows10} (h : Tab w tb mb most m) (h1 : w'.heap[tb]? = w.heap[tb]?) (h2 : w'.heap[mb]? = w.heap[mb]?) : Tab w' tb mb most m := by
  obtain ⟨a, b, c, d⟩ := h
  refine ⟨by rw [World.cell?_of_block h1]; exact a, by rw [World.cell?_of_block h1]; exact b, ?_, d.of_heap h2⟩
  have : w.heap[tb]? = some w.heap[tb] := Array.getElem?_eq_getElem c
  rw [this] at h1
  exact lt_of_heap h1
theorem Tab.below {w w' : World} {tb mb : Nat} {most : Int} {m : Rows10} (h : Tab w tb mb most m) (hb : Below w.heap.size w w') : Tab w' tb mb most m :=
  h.of_heap (hb.block _ h.2.2.1) (hb.block _ h.2.2.2.lt)

theorem heap_set4 {w : World} {b k : Nat} {t0 t1 t2 t3 : Value} (hk : k ≠ b) : ((((w.setCell ⟨b, 0, none⟩ t0).setCell ⟨b, 1, none⟩ t1).setCell ⟨b, 2, none⟩ t2).setCell ⟨b, 3, none⟩ t3).heap[k]? = w.heap[k]? := by
  rw [Below.heap_setCell _ _ _ _ hk, Below.heap_setCell _ _ _ _ hk, Below.heap_setCell _ _ _ _ hk, Below.heap_setCell _ _ _ _ hk]
theorem heap_set4_same {w : World} {b : Nat} {t : TypeId} {t0 t1 t2 t3 u0 u1 u2 u3 : Value} (h : w.heap[b]? = some (.cells #[u0, u1, u2, u3] t (0, 0))) : ((((w.setCell ⟨b, 0, none⟩ t0).setCell ⟨b, 1, none⟩ t1).setCell ⟨b, 2, none⟩ t2).setCell ⟨b, 3, none⟩ t3).heap[b]? = some (.cells #[t0, t1, t2, t3] t (0, 0)) :=
  heap_setCell_same _ _ _ _ _ _ (heap_setCell_same _ _ _ _ _ _ (heap_setCell_same _ _ _ _ _ _ (heap_setCell_same _ _ _ _ _ _ h)))
theorem heap_set2_same {w : World} {b : Nat} {t : TypeId} {t0 t1 u0 u1 : Value} (h : w.heap[b]? = some (.cells #[u0, u1] t (0, 0))) : ((w.setCell ⟨b, 0, none⟩ t0).setCell ⟨b, 1, none⟩ t1).heap[b]? = some (.cells #[t0, t1] t (0, 0)) :=
  heap_setCell_same _ _ _ _ _ _ (heap_setCell_same _ _ _ _ _ _ h)
theorem heap_set2 {w : World} {b k : Nat} {t0 t1 : Value} (hk : k ≠ b) : ((w.setCell ⟨b, 0, none⟩ t0).setCell ⟨b, 1, none⟩ t1).heap[k]? = w.heap[k]? := by
  rw [Below.heap_setCell _ _ _ _ hk, Below.heap_setCell _ _ _ _ hk]
set_option maxRecDepth 100000 in
set_option maxHeartbeats 4000000 in
theorem walkPromises (sv : Value) (l : List OpR) (w : World) (hs : Script w sv l) : Calls Try.prog 3 #[sv] w (fun e w' => e = .returned (.bool true) ∧ Below w.heap.size w w') := by
  obtain ⟨hl, A, c, rfl, hc⟩ := hs
  have HC := Lib.hid hc
  clear hc
  go_enter Try.func3, Try.ntmps3
  go_wp2_with fail
  refine (acc_New 4096 _ (by omega)).mono ?_
  rintro e w1 ⟨rfl, hb1, ht1⟩
  have hl1 := ht1.2.2.1
  have B1 := Lib.hid hb1
  have T1 := Lib.hid ht1
  clear hb1 ht1
  go_wp2_with fail
  refine (law_alive _).mono ?_
  rintro e w2 ⟨rfl, hb2⟩
  have T2 := Lib.hid (T1.out.below hb2)
  have B2 := Lib.hid (B1.out.trans (hb2.mono (by (try simp only [World.size_alloc, size_ext, World.size_setCell]); omega)))
  have hs2 := hb2.size
  clear hb2 B1 T1
  go_wp2_with fail
  go_loopw [8] (fun s8 wr => ∃ (k : Nat) (m : Rows10) (p : Ballot) (a : Acc), k ≤ l.length ∧ s8 = .int .i64 k ∧ Hid (Below w.heap.size w wr) ∧ Hid (Tab wr (w.heap.size + 1) w.heap.size 4096 m) ∧
    Hid (wr.heap[w2.heap.size]? = some (.cells #[.int .u64 7, .int .i64 0, .int .i64 0, .int .u32 0] 31)) ∧ Hid (wr.heap[w2.heap.size + 1]? = some (.cells #[.int .u32 p.r, .int .u8 p.n] 33)) ∧ Hid (wr.heap[w2.heap.size + 1 + 1]? = some (.cells #[.bool a.is, .int .u32 a.b.r, .int .u8 a.b.n, .string a.v] 35)) ∧
    Hid (OneI i7 m p a)) (fun s8 _ => l.length - (intOf s8).toNat)
  case atStart =>
    refine ⟨0, [], noB, noA, by omega, rfl, Lib.hid (((B2.out.alloc (by (try simp only [World.size_alloc, size_ext, World.size_setCell]); omega) _).alloc (by (try simp only [World.size_alloc, size_ext, World.size_setCell]); omega) _).alloc (by (try simp only [World.size_alloc, size_ext, World.size_setCell]); omega) _), Lib.hid (((T2.out.alloc _).alloc _).alloc _), Lib.hid (hp_alloc _ (hp_alloc _ (hp_new rfl))), Lib.hid (hp_alloc _ (hp_new (by simp))), Lib.hid (hp_new (by simp)), Lib.hid ⟨.inl ⟨rfl, rfl, rfl⟩, fun h => by cases h⟩⟩
  case round =>
    clear T2 B2
    obtain ⟨k, m, p, a, hk, rfl, HB, HT, HI, HP, HA, HO⟩ := hrel
    by_cases hlt : k < l.length ∧ k < 300
    case neg =>
      by_cases h1 : k < l.length
      · have h2 : ¬ k < 300 := fun h => hlt ⟨h1, h⟩
        go_wp2
        go_ret
        exact ⟨rfl, HB.out⟩
      · go_wp2
        go_ret
        exact ⟨rfl, HB.out⟩
    obtain ⟨hlt, h300⟩ := hlt
    obtain ⟨⟨hiw, hbr⟩, b, off, rfl, hbb, c0, c1, c2, c3, c4, c5, c6, c7⟩ := HC.out k _ (List.getElem?_eq_getElem hlt)
    generalize l[k] = o at *
    obtain ⟨ok, ⟨ix, ibk, irp, iix⟩, ⟨br, bn⟩, ov⟩ := o
    simp only at hbr c0 c1 c2 c3 c4 c5 c6 c7
    have hbk := HB.out.block b hbb
    rw [← World.cell?_of_block hbk] at c0 c1 c2 c3 c4 c5 c6 c7
    have HBR := Lib.hid hbr
    obtain ⟨pr, pn⟩ := p
    obtain ⟨ai, ⟨ar, an⟩, av⟩ := a
    have hp0 := HP.out
    have lp := lt_of_heap hp0
    have kp := fun j => cell_of_heap (i := j) hp0
    have kp0 := (kp 0).trans rfl
    have kp1 := (kp 1).trans rfl
    simp only [List.getElem?_toArray, List.getElem?_cons_zero, List.getElem?_cons_succ] at kp0 kp1
    clear kp hp0 hbk hiw hbr
    go_wp2_with fail
    refine (acc_Less ⟨br, bn⟩ ⟨pr, pn⟩ _).mono ?_
    rintro e w3 ⟨rfl, hy⟩
    clear c0 c1 c2 c3 c4 c5 c6 c7 kp0 kp1
    have F3 : ∀ k o, (wr.alloc (.cells #[.int .i64 ok, .int .u64 ix, .int .i64 ibk, .int .i64 irp, .int .u32 iix, .int .u32 br, .int .u8 bn, .string ov] 37)).heap[k]? = some o → w3.heap[k]? = some o := fun k o hk => by obtain ⟨y, rfl⟩ := hy; exact hp_ext hk
    have B3 : Hid (Below w.heap.size w w3) := Lib.hid (by obtain ⟨y, rfl⟩ := hy; exact (HB.out.alloc (by have := HB.out.size; omega) _).trans (below_ext.mono (by have := HB.out.size; simp; omega)))
    have T3 : Hid (Tab w3 (w.heap.size + 1) w.heap.size 4096 m) := Lib.hid (by obtain ⟨y, rfl⟩ := hy; exact (HT.out.alloc _).ext _)
    have x0 : w3.heap[wr.heap.size]? = some (.cells #[.int .i64 ok, .int .u64 ix, .int .i64 ibk, .int .i64 irp, .int .u32 iix, .int .u32 br, .int .u8 bn, .string ov] 37) := F3 _ _ (hp_new rfl)
    have x1 : w3.heap[w2.heap.size]? = some (.cells #[.int .u64 7, .int .i64 0, .int .i64 0, .int .u32 0] 31) := F3 _ _ (hp_alloc _ HI.out)
    have x2 : w3.heap[w2.heap.size + 1]? = some (.cells #[.int .u32 pr, .int .u8 pn] 33) := F3 _ _ (hp_alloc _ HP.out)
    have x3 : w3.heap[w2.heap.size + 1 + 1]? = some (.cells #[.bool ai, .int .u32 ar, .int .u8 an, .string av] 35) := F3 _ _ (hp_alloc _ HA.out)
    have la3 := lt_of_heap HA.out
    generalize hlow : less ⟨br, bn⟩ ⟨pr, pn⟩ = low
    have LOW := Lib.hid hlow
    clear hlow
    have lk0 := lt_of_heap x0
    have k0 := fun j => cell_of_heap (i := j) x0
    have k0_0 := (k0 0).trans rfl
    have k0_1 := (k0 1).trans rfl
    have k0_2 := (k0 2).trans rfl
    have k0_3 := (k0 3).trans rfl
    have k0_4 := (k0 4).trans rfl
    have k0_5 := (k0 5).trans rfl
    have k0_6 := (k0 6).trans rfl
    have k0_7 := (k0 7).trans rfl
    simp only [List.getElem?_toArray, List.getElem?_cons_zero, List.getElem?_cons_succ] at k0_0 k0_1 k0_2 k0_3 k0_4 k0_5 k0_6 k0_7
    clear k0
    have lk1 := lt_of_heap x1
    have k1 := fun j => cell_of_heap (i := j) x1
    have k1_0 := (k1 0).trans rfl
    have k1_1 := (k1 1).trans rfl
    have k1_2 := (k1 2).trans rfl
    have k1_3 := (k1 3).trans rfl
    simp only [List.getElem?_toArray, List.getElem?_cons_zero, List.getElem?_cons_succ] at k1_0 k1_1 k1_2 k1_3
    clear k1
    have lk2 := lt_of_heap x2
    have k2 := fun j => cell_of_heap (i := j) x2
    have k2_0 := (k2 0).trans rfl
    have k2_1 := (k2 1).trans rfl
    simp only [List.getElem?_toArray, List.getElem?_cons_zero, List.getElem?_cons_succ] at k2_0 k2_1
    clear k2
    have lk3 := lt_of_heap x3
    have k3 := fun j => cell_of_heap (i := j) x3
    have k3_0 := (k3 0).trans rfl
    have k3_1 := (k3 1).trans rfl
    have k3_2 := (k3 2).trans rfl
    have k3_3 := (k3 3).trans rfl
    simp only [List.getElem?_toArray, List.getElem?_cons_zero, List.getElem?_cons_succ] at k3_0 k3_1 k3_2 k3_3
    clear k3
    have X0 := Lib.hid x0
    have X1 := Lib.hid x1
    have X2 := Lib.hid x2
    have X3 := Lib.hid x3
    clear hy F3 x0 x1 x2 x3 HB HT HI HP HA
    go_upto_if 58 with fail
    go_cut [8] (fun s8 wc => s8 = .int .i64 k ∧ ∃ (m' : Rows10) (a' : Acc), Hid (Below w.heap.size w wc) ∧ Hid (Tab wc (w.heap.size + 1) w.heap.size 4096 m') ∧ Hid (wc.heap[wr.heap.size]? = some (.cells #[.int .i64 ok, .int .u64 ix, .int .i64 ibk, .int .i64 irp, .int .u32 iix, .int .u32 br, .int .u8 bn, .string ov] 37)) ∧
      Hid (wc.heap[w2.heap.size]? = some (.cells #[.int .u64 7, .int .i64 0, .int .i64 0, .int .u32 0] 31)) ∧ Hid (wc.heap[w2.heap.size + 1]? = some (.cells #[.int .u32 pr, .int .u8 pn] 33)) ∧ Hid (wc.heap[w2.heap.size + 1 + 1]? = some (.cells #[.bool a'.is, .int .u32 a'.b.r, .int .u8 a'.b.n, .string a'.v] 35)) ∧
      Hid (OneI i7 m' (if low then ⟨pr, pn⟩ else ⟨br, bn⟩) a') ∧ Hid (get10 m' i7 = ((if low then ⟨pr, pn⟩ else ⟨br, bn⟩), a', 0)))
    case first =>
      by_cases hk1 : ok = 1
      · subst hk1
        cases low
        · obtain ⟨⟨m1, v1, o1, g1⟩, ⟨m2, v2, o2, g2⟩⟩ := one_high (most := 4096) (by omega) ov HO.out LOW.out
          have C := acc_Prepare w3 _ _ 4096 m i7 ⟨br, bn⟩ T3.out i7wf
          rw [v1] at C
          simp only [Inst.val, i7, Ballot.val, Acc.val, noA, noB, ByteArray.empty] at C
          have CC := Lib.hid C
          have V3 := Lib.hid (g1)
          have O3 := Lib.hid (o1)
          clear C v1 v2 o1 o2 g1 g2
          go_wp2_with fail
          refine CC.out.mono ?_
          rintro e w4 ⟨rfl, hk4, hm4⟩
          have T4 : Hid (Tab w4 (w.heap.size + 1) w.heap.size 4096 m1) := Lib.hid (T3.out.kept hk4 hm4)
          have B4 : Hid (Below w.heap.size w w4) := Lib.hid (hk4.below B3.out (Nat.le_refl _) (by omega))
          have y0 := hk4.heap X0.out (show wr.heap.size ≠ w.heap.size by omega)
          have y1 := hk4.heap X1.out (show w2.heap.size ≠ w.heap.size by omega)
          have y2 := hk4.heap X2.out (show w2.heap.size + 1 ≠ w.heap.size by omega)
          have y3 := hk4.heap X3.out (show w2.heap.size + 1 + 1 ≠ w.heap.size by omega)
          have hs4 : w.heap.size ≤ w4.heap.size := B4.out.size
          clear k0_0 k0_1 k0_2 k0_3 k0_4 k0_5 k0_6 k0_7 k1_0 k1_1 k1_2 k1_3 k2_0 k2_1 k3_0 k3_1 k3_2 k3_3 hk4 hm4 CC
          have ly1 := lt_of_heap y1
          have lj0 := lt_of_heap y0
          have j0 := fun j => cell_of_heap (i := j) y0
          have j0_0 := (j0 0).trans rfl
          have j0_1 := (j0 1).trans rfl
          have j0_2 := (j0 2).trans rfl
          have j0_3 := (j0 3).trans rfl
          have j0_4 := (j0 4).trans rfl
          have j0_5 := (j0 5).trans rfl
          have j0_6 := (j0 6).trans rfl
          have j0_7 := (j0 7).trans rfl
          simp only [List.getElem?_toArray, List.getElem?_cons_zero, List.getElem?_cons_succ] at j0_0 j0_1 j0_2 j0_3 j0_4 j0_5 j0_6 j0_7
          clear j0
          have lj2 := lt_of_heap y2
          have j2 := fun j => cell_of_heap (i := j) y2
          have j2_0 := (j2 0).trans rfl
          have j2_1 := (j2 1).trans rfl
          simp only [List.getElem?_toArray, List.getElem?_cons_zero, List.getElem?_cons_succ] at j2_0 j2_1
          clear j2
          have lj3 := lt_of_heap y3
          have j3 := fun j => cell_of_heap (i := j) y3
          have j3_0 := (j3 0).trans rfl
          have j3_1 := (j3 1).trans rfl
          have j3_2 := (j3 2).trans rfl
          have j3_3 := (j3 3).trans rfl
          simp only [List.getElem?_toArray, List.getElem?_cons_zero, List.getElem?_cons_succ] at j3_0 j3_1 j3_2 j3_3
          clear j3
          have Y0 := Lib.hid y0
          have Y1 := Lib.hid y1
          have Y2 := Lib.hid y2
          have Y3 := Lib.hid y3
          clear y0 y1 y2 y3
          go_wp2_with fail
          go_meet
          exact ⟨rfl, m1, ⟨ai, ⟨ar, an⟩, av⟩, Lib.hid ((B4.out.alloc (by (try simp only [World.size_alloc, size_ext, World.size_setCell]); omega) _).alloc (by (try simp only [World.size_alloc, size_ext, World.size_setCell]); omega) _), Lib.hid ((T4.out.alloc _).alloc _), Lib.hid (hp_alloc _ (hp_alloc _ Y0.out)), Lib.hid (hp_alloc _ (hp_alloc _ Y1.out)), Lib.hid (hp_alloc _ (hp_alloc _ Y2.out)), Lib.hid (hp_alloc _ (hp_alloc _ Y3.out)), Lib.hid (by simpa using O3.out), Lib.hid (by simpa using V3.out)⟩
        · obtain ⟨v1, v2, v3⟩ := one_low (most := 4096) ov HO.out HBR.out LOW.out
          have C := acc_Prepare w3 _ _ 4096 m i7 ⟨br, bn⟩ T3.out i7wf
          rw [v1] at C
          simp only [Inst.val, i7, Ballot.val, Acc.val, noA, noB, ByteArray.empty] at C
          have CC := Lib.hid C
          have V3 := Lib.hid v3
          clear C v1 v2 v3
          go_wp2_with fail
          refine CC.out.mono ?_
          rintro e w4 ⟨rfl, hk4, hm4⟩
          have T4 : Hid (Tab w4 (w.heap.size + 1) w.heap.size 4096 m) := Lib.hid (T3.out.kept hk4 hm4)
          have B4 : Hid (Below w.heap.size w w4) := Lib.hid (hk4.below B3.out (Nat.le_refl _) (by omega))
          have y0 := hk4.heap X0.out (show wr.heap.size ≠ w.heap.size by omega)
          have y1 := hk4.heap X1.out (show w2.heap.size ≠ w.heap.size by omega)
          have y2 := hk4.heap X2.out (show w2.heap.size + 1 ≠ w.heap.size by omega)
          have y3 := hk4.heap X3.out (show w2.heap.size + 1 + 1 ≠ w.heap.size by omega)
          have hs4 : w.heap.size ≤ w4.heap.size := B4.out.size
          clear k0_0 k0_1 k0_2 k0_3 k0_4 k0_5 k0_6 k0_7 k1_0 k1_1 k1_2 k1_3 k2_0 k2_1 k3_0 k3_1 k3_2 k3_3 hk4 hm4 CC
          have ly1 := lt_of_heap y1
          have lj0 := lt_of_heap y0
          have j0 := fun j => cell_of_heap (i := j) y0
          have j0_0 := (j0 0).trans rfl
          have j0_1 := (j0 1).trans rfl
          have j0_2 := (j0 2).trans rfl
          have j0_3 := (j0 3).trans rfl
          have j0_4 := (j0 4).trans rfl
          have j0_5 := (j0 5).trans rfl
          have j0_6 := (j0 6).trans rfl
          have j0_7 := (j0 7).trans rfl
          simp only [List.getElem?_toArray, List.getElem?_cons_zero, List.getElem?_cons_succ] at j0_0 j0_1 j0_2 j0_3 j0_4 j0_5 j0_6 j0_7
          clear j0
          have lj2 := lt_of_heap y2
          have j2 := fun j => cell_of_heap (i := j) y2
          have j2_0 := (j2 0).trans rfl
          have j2_1 := (j2 1).trans rfl
          simp only [List.getElem?_toArray, List.getElem?_cons_zero, List.getElem?_cons_succ] at j2_0 j2_1
          clear j2
          have lj3 := lt_of_heap y3
          have j3 := fun j => cell_of_heap (i := j) y3
          have j3_0 := (j3 0).trans rfl
          have j3_1 := (j3 1).trans rfl
          have j3_2 := (j3 2).trans rfl
          have j3_3 := (j3 3).trans rfl
          simp only [List.getElem?_toArray, List.getElem?_cons_zero, List.getElem?_cons_succ] at j3_0 j3_1 j3_2 j3_3
          clear j3
          have Y0 := Lib.hid y0
          have Y1 := Lib.hid y1
          have Y2 := Lib.hid y2
          have Y3 := Lib.hid y3
          clear y0 y1 y2 y3
          go_wp2_with fail
          go_meet
          exact ⟨rfl, m, ⟨ai, ⟨ar, an⟩, av⟩, Lib.hid ((B4.out.alloc (by (try simp only [World.size_alloc, size_ext, World.size_setCell]); omega) _).alloc (by (try simp only [World.size_alloc, size_ext, World.size_setCell]); omega) _), Lib.hid ((T4.out.alloc _).alloc _), Lib.hid (hp_alloc _ (hp_alloc _ Y0.out)), Lib.hid (hp_alloc _ (hp_alloc _ Y1.out)), Lib.hid (hp_alloc _ (hp_alloc _ Y2.out)), Lib.hid (hp_alloc _ (hp_alloc _ Y3.out)), Lib.hid (by simpa using HO.out), Lib.hid (by simpa using V3.out)⟩
      · have hk2 : (ok == 1) = false := by simp [hk1]
        cases low
        · obtain ⟨⟨m1, v1, o1, g1⟩, ⟨m2, v2, o2, g2⟩⟩ := one_high (most := 4096) (by omega) ov HO.out LOW.out
          have C := acc_Accept w3 _ _ 4096 m i7 ⟨br, bn⟩ ov T3.out i7wf
          rw [v2] at C
          simp only [Inst.val, i7, Ballot.val, Acc.val, noA, noB, ByteArray.empty] at C
          have CC := Lib.hid C
          have V3 := Lib.hid (g2)
          have O3 := Lib.hid (o2)
          clear C v1 v2 o1 o2 g1 g2
          go_wp2_with fail
          refine CC.out.mono ?_
          rintro e w4 ⟨rfl, hk4, hm4⟩
          have T4 : Hid (Tab w4 (w.heap.size + 1) w.heap.size 4096 m2) := Lib.hid (T3.out.kept hk4 hm4)
          have B4 : Hid (Below w.heap.size w w4) := Lib.hid (hk4.below B3.out (Nat.le_refl _) (by omega))
          have y0 := hk4.heap X0.out (show wr.heap.size ≠ w.heap.size by omega)
          have y1 := hk4.heap X1.out (show w2.heap.size ≠ w.heap.size by omega)
          have y2 := hk4.heap X2.out (show w2.heap.size + 1 ≠ w.heap.size by omega)
          have y3 := hk4.heap X3.out (show w2.heap.size + 1 + 1 ≠ w.heap.size by omega)
          have hs4 : w.heap.size ≤ w4.heap.size := B4.out.size
          clear k0_0 k0_1 k0_2 k0_3 k0_4 k0_5 k0_6 k0_7 k1_0 k1_1 k1_2 k1_3 k2_0 k2_1 k3_0 k3_1 k3_2 k3_3 hk4 hm4 CC
          have ly1 := lt_of_heap y1
          have lj0 := lt_of_heap y0
          have j0 := fun j => cell_of_heap (i := j) y0
          have j0_0 := (j0 0).trans rfl
          have j0_1 := (j0 1).trans rfl
          have j0_2 := (j0 2).trans rfl
          have j0_3 := (j0 3).trans rfl
          have j0_4 := (j0 4).trans rfl
          have j0_5 := (j0 5).trans rfl
          have j0_6 := (j0 6).trans rfl
          have j0_7 := (j0 7).trans rfl
          simp only [List.getElem?_toArray, List.getElem?_cons_zero, List.getElem?_cons_succ] at j0_0 j0_1 j0_2 j0_3 j0_4 j0_5 j0_6 j0_7
          clear j0
          have lj2 := lt_of_heap y2
          have j2 := fun j => cell_of_heap (i := j) y2
          have j2_0 := (j2 0).trans rfl
          have j2_1 := (j2 1).trans rfl
          simp only [List.getElem?_toArray, List.getElem?_cons_zero, List.getElem?_cons_succ] at j2_0 j2_1
          clear j2
          have lj3 := lt_of_heap y3
          have j3 := fun j => cell_of_heap (i := j) y3
          have j3_0 := (j3 0).trans rfl
          have j3_1 := (j3 1).trans rfl
          have j3_2 := (j3 2).trans rfl
          have j3_3 := (j3 3).trans rfl
          simp only [List.getElem?_toArray, List.getElem?_cons_zero, List.getElem?_cons_succ] at j3_0 j3_1 j3_2 j3_3
          clear j3
          have Y0 := Lib.hid y0
          have Y1 := Lib.hid y1
          have Y2 := Lib.hid y2
          have Y3 := Lib.hid y3
          have f3 : ∀ j, w4.frozen? ⟨w2.heap.size + 1 + 1, j, none⟩ = false := fun j => frozen_of_heap Y3.out
          clear y0 y1 y2 y3
          go_wp2_with fail
          go_meet
          have S := fun k (hk : k ≠ w2.heap.size + 1 + 1) => heap_set4 (w := w4) (t0 := .bool true) (t1 := .int .u32 br) (t2 := .int .u8 bn) (t3 := .string ov) hk
          have hb3 : w.heap.size ≤ w2.heap.size + 1 + 1 := by omega
          exact ⟨rfl, m2, ⟨true, ⟨br, bn⟩, ov⟩, Lib.hid (((((B4.out.setCell hb3 _).setCell hb3 _).setCell hb3 _).setCell hb3 _).alloc (by simp [World.setCell]; omega) _), Lib.hid ((T4.out.of_heap (S (w.heap.size + 1) (by omega)) (S w.heap.size (by omega))).alloc _), Lib.hid (hp_alloc _ ((S wr.heap.size (by omega)).trans Y0.out)), Lib.hid (hp_alloc _ ((S w2.heap.size (by omega)).trans Y1.out)), Lib.hid (hp_alloc _ ((S (w2.heap.size + 1) (by omega)).trans Y2.out)), Lib.hid (hp_alloc _ (heap_set4_same Y3.out)), Lib.hid (by simpa using O3.out), Lib.hid (by simpa using V3.out)⟩
        · obtain ⟨v1, v2, v3⟩ := one_low (most := 4096) ov HO.out HBR.out LOW.out
          have C := acc_Accept w3 _ _ 4096 m i7 ⟨br, bn⟩ ov T3.out i7wf
          rw [v2] at C
          simp only [Inst.val, i7, Ballot.val, Acc.val, noA, noB, ByteArray.empty] at C
          have CC := Lib.hid C
          have V3 := Lib.hid v3
          clear C v1 v2 v3
          go_wp2_with fail
          refine CC.out.mono ?_
          rintro e w4 ⟨rfl, hk4, hm4⟩
          have T4 : Hid (Tab w4 (w.heap.size + 1) w.heap.size 4096 m) := Lib.hid (T3.out.kept hk4 hm4)
          have B4 : Hid (Below w.heap.size w w4) := Lib.hid (hk4.below B3.out (Nat.le_refl _) (by omega))
          have y0 := hk4.heap X0.out (show wr.heap.size ≠ w.heap.size by omega)
          have y1 := hk4.heap X1.out (show w2.heap.size ≠ w.heap.size by omega)
          have y2 := hk4.heap X2.out (show w2.heap.size + 1 ≠ w.heap.size by omega)
          have y3 := hk4.heap X3.out (show w2.heap.size + 1 + 1 ≠ w.heap.size by omega)
          have hs4 : w.heap.size ≤ w4.heap.size := B4.out.size
          clear k0_0 k0_1 k0_2 k0_3 k0_4 k0_5 k0_6 k0_7 k1_0 k1_1 k1_2 k1_3 k2_0 k2_1 k3_0 k3_1 k3_2 k3_3 hk4 hm4 CC
          have ly1 := lt_of_heap y1
          have lj0 := lt_of_heap y0
          have j0 := fun j => cell_of_heap (i := j) y0
          have j0_0 := (j0 0).trans rfl
          have j0_1 := (j0 1).trans rfl
          have j0_2 := (j0 2).trans rfl
          have j0_3 := (j0 3).trans rfl
          have j0_4 := (j0 4).trans rfl
          have j0_5 := (j0 5).trans rfl
          have j0_6 := (j0 6).trans rfl
          have j0_7 := (j0 7).trans rfl
          simp only [List.getElem?_toArray, List.getElem?_cons_zero, List.getElem?_cons_succ] at j0_0 j0_1 j0_2 j0_3 j0_4 j0_5 j0_6 j0_7
          clear j0
          have lj2 := lt_of_heap y2
          have j2 := fun j => cell_of_heap (i := j) y2
          have j2_0 := (j2 0).trans rfl
          have j2_1 := (j2 1).trans rfl
          simp only [List.getElem?_toArray, List.getElem?_cons_zero, List.getElem?_cons_succ] at j2_0 j2_1
          clear j2
          have lj3 := lt_of_heap y3
          have j3 := fun j => cell_of_heap (i := j) y3
          have j3_0 := (j3 0).trans rfl
          have j3_1 := (j3 1).trans rfl
          have j3_2 := (j3 2).trans rfl
          have j3_3 := (j3 3).trans rfl
          simp only [List.getElem?_toArray, List.getElem?_cons_zero, List.getElem?_cons_succ] at j3_0 j3_1 j3_2 j3_3
          clear j3
          have Y0 := Lib.hid y0
          have Y1 := Lib.hid y1
          have Y2 := Lib.hid y2
          have Y3 := Lib.hid y3
          clear y0 y1 y2 y3
          go_wp2_with fail
          go_meet
          exact ⟨rfl, m, ⟨ai, ⟨ar, an⟩, av⟩, Lib.hid (B4.out.alloc (by (try simp only [World.size_alloc, size_ext, World.size_setCell]); omega) _), Lib.hid (T4.out.alloc _), Lib.hid (hp_alloc _ Y0.out), Lib.hid (hp_alloc _ Y1.out), Lib.hid (hp_alloc _ Y2.out), Lib.hid (hp_alloc _ Y3.out), Lib.hid (by simpa using HO.out), Lib.hid (by simpa using V3.out)⟩
    case rest =>
      obtain ⟨rfl, m', a', B4, T4, Y0, Y1, Y2, Y3, ON, GE⟩ := hcut
      obtain ⟨ai', ⟨ar', an'⟩, av'⟩ := a'
      clear k0_0 k0_1 k0_2 k0_3 k0_4 k0_5 k0_6 k0_7 k1_0 k1_1 k1_2 k1_3 k2_0 k2_1 k3_0 k3_1 k3_2 k3_3
      clear X0 X1 X2 X3 HO B3 T3
      cases low
      · have ON2 : Hid (OneI i7 m' ⟨br, bn⟩ ⟨ai', ⟨ar', an'⟩, av'⟩) := Lib.hid (by simpa using ON.out)
        have GE2 : get10 m' i7 = (⟨br, bn⟩, ⟨ai', ⟨ar', an'⟩, av'⟩, 0) := by simpa using GE.out
        have y0 := Y0.out
        have y2 := Y2.out
        have lj0 := lt_of_heap y0
        have j0 := fun j => cell_of_heap (i := j) y0
        have j0_0 := (j0 0).trans rfl
        have j0_1 := (j0 1).trans rfl
        have j0_2 := (j0 2).trans rfl
        have j0_3 := (j0 3).trans rfl
        have j0_4 := (j0 4).trans rfl
        have j0_5 := (j0 5).trans rfl
        have j0_6 := (j0 6).trans rfl
        have j0_7 := (j0 7).trans rfl
        simp only [List.getElem?_toArray, List.getElem?_cons_zero, List.getElem?_cons_succ] at j0_0 j0_1 j0_2 j0_3 j0_4 j0_5 j0_6 j0_7
        clear j0
        have lj2 := lt_of_heap y2
        have j2 := fun j => cell_of_heap (i := j) y2
        have j2_0 := (j2 0).trans rfl
        have j2_1 := (j2 1).trans rfl
        simp only [List.getElem?_toArray, List.getElem?_cons_zero, List.getElem?_cons_succ] at j2_0 j2_1
        clear j2
        have f2 : ∀ j, wc.frozen? ⟨w2.heap.size + 1, j, none⟩ = false := fun j => frozen_of_heap Y2.out
        have hb3 : w.heap.size ≤ w2.heap.size + 1 := by omega
        clear y0 y2
        have S := fun k (hk : k ≠ w2.heap.size + 1) => heap_set2 (w := wc) (t0 := .int .u32 br) (t1 := .int .u8 bn) hk
        have BD : Hid (Below w.heap.size w ((wc.setCell ⟨w2.heap.size + 1, 0, none⟩ (.int .u32 br)).setCell ⟨w2.heap.size + 1, 1, none⟩ (.int .u8 bn))) := Lib.hid ((B4.out.setCell hb3 _).setCell hb3 _)
        have TD : Hid (Tab ((wc.setCell ⟨w2.heap.size + 1, 0, none⟩ (.int .u32 br)).setCell ⟨w2.heap.size + 1, 1, none⟩ (.int .u8 bn)) (w.heap.size + 1) w.heap.size 4096 m') := Lib.hid (T4.out.of_heap (S (w.heap.size + 1) (by omega)) (S w.heap.size (by omega)))
        have D1 : Hid (((wc.setCell ⟨w2.heap.size + 1, 0, none⟩ (.int .u32 br)).setCell ⟨w2.heap.size + 1, 1, none⟩ (.int .u8 bn)).heap[w2.heap.size]? = some (.cells #[.int .u64 7, .int .i64 0, .int .i64 0, .int .u32 0] 31)) := Lib.hid ((S w2.heap.size (by omega)).trans Y1.out)
        have D2 : Hid (((wc.setCell ⟨w2.heap.size + 1, 0, none⟩ (.int .u32 br)).setCell ⟨w2.heap.size + 1, 1, none⟩ (.int .u8 bn)).heap[w2.heap.size + 1]? = some (.cells #[.int .u32 br, .int .u8 bn] 33)) := Lib.hid (heap_set2_same Y2.out)
        have D3 : Hid (((wc.setCell ⟨w2.heap.size + 1, 0, none⟩ (.int .u32 br)).setCell ⟨w2.heap.size + 1, 1, none⟩ (.int .u8 bn)).heap[w2.heap.size + 1 + 1]? = some (.cells #[.bool ai', .int .u32 ar', .int .u8 an', .string av'] 35)) := Lib.hid ((S (w2.heap.size + 1 + 1) (by omega)).trans Y3.out)
        clear S
        go_upto_region 23 with fail
        generalize ((wc.setCell ⟨w2.heap.size + 1, 0, none⟩ (.int .u32 br)).setCell ⟨w2.heap.size + 1, 1, none⟩ (.int .u8 bn)) = wd at *
        clear B4 T4 Y0 Y1 Y2 Y3 j0_0 j0_1 j0_2 j0_3 j0_4 j0_5 j0_6 j0_7 j2_0 j2_1 f2
        have y1 := D1.out
        have ld1 := lt_of_heap y1
        have d1 := fun j => cell_of_heap (i := j) y1
        have d1_0 := (d1 0).trans rfl
        have d1_1 := (d1 1).trans rfl
        have d1_2 := (d1 2).trans rfl
        have d1_3 := (d1 3).trans rfl
        simp only [List.getElem?_toArray, List.getElem?_cons_zero, List.getElem?_cons_succ] at d1_0 d1_1 d1_2 d1_3
        clear d1
        clear y1
        have C := acc_Get wd _ _ 4096 m' i7 TD.out i7wf
        rw [GE2] at C
        simp only [Inst.val, i7, Ballot.val, Acc.val] at C
        have CC := Lib.hid C
        clear C GE2 GE ON
        go_wp2_with fail
        refine CC.out.mono ?_
        rintro e w5 ⟨rfl, hy5⟩
        clear d1_0 d1_1 d1_2 d1_3 CC
        have e1 : w5.heap[w2.heap.size]? = some (.cells #[.int .u64 7, .int .i64 0, .int .i64 0, .int .u32 0] 31) := by obtain ⟨y, rfl⟩ := hy5; exact hp_ext D1.out
        have e2 : w5.heap[w2.heap.size + 1]? = some (.cells #[.int .u32 br, .int .u8 bn] 33) := by obtain ⟨y, rfl⟩ := hy5; exact hp_ext D2.out
        have e3 : w5.heap[w2.heap.size + 1 + 1]? = some (.cells #[.bool ai', .int .u32 ar', .int .u8 an', .string av'] 35) := by obtain ⟨y, rfl⟩ := hy5; exact hp_ext D3.out
        have B5 : Hid (Below w.heap.size w w5) := Lib.hid (by obtain ⟨y, rfl⟩ := hy5; exact BD.out.trans (below_ext.mono (BD.out.size)))
        have T5 : Hid (Tab w5 (w.heap.size + 1) w.heap.size 4096 m') := Lib.hid (by obtain ⟨y, rfl⟩ := hy5; exact TD.out.ext _)
        have hs5 : w.heap.size ≤ w5.heap.size := B5.out.size
        have le1 := lt_of_heap e1
        have lg2 := lt_of_heap e2
        have g2 := fun j => cell_of_heap (i := j) e2
        have g2_0 := (g2 0).trans rfl
        have g2_1 := (g2 1).trans rfl
        simp only [List.getElem?_toArray, List.getElem?_cons_zero, List.getElem?_cons_succ] at g2_0 g2_1
        clear g2
        have lg3 := lt_of_heap e3
        have g3 := fun j => cell_of_heap (i := j) e3
        have g3_0 := (g3 0).trans rfl
        have g3_1 := (g3 1).trans rfl
        have g3_2 := (g3 2).trans rfl
        have g3_3 := (g3 3).trans rfl
        simp only [List.getElem?_toArray, List.getElem?_cons_zero, List.getElem?_cons_succ] at g3_0 g3_1 g3_2 g3_3
        clear g3
        have E1 := Lib.hid e1
        have E2 := Lib.hid e2
        have E3 := Lib.hid e3
        clear e1 e2 e3 hy5 BD TD D1 D2 D3
        cases ai'
        · go_wp2
          go_roundw
          case rel => exact ⟨k + 1, m', ⟨br, bn⟩, ⟨false, ⟨ar', an'⟩, av'⟩, by omega, by go_num, Lib.hid ((B5.out.alloc (by (try simp only [World.size_alloc, size_ext, World.size_setCell]); omega) _).alloc (by (try simp only [World.size_alloc, size_ext, World.size_setCell]); omega) _), Lib.hid ((T5.out.alloc _).alloc _), Lib.hid (hp_alloc _ (hp_alloc _ E1.out)), Lib.hid (hp_alloc _ (hp_alloc _ E2.out)), Lib.hid (hp_alloc _ (hp_alloc _ E3.out)), ON2⟩
          case measure => simp [intOf]; omega
        · have LF : less ⟨br, bn⟩ ⟨ar', an'⟩ = false := ON2.out.2 rfl
          have LH := Lib.hid LF
          clear LF
          go_wp2_with fail
          refine (acc_Less ⟨br, bn⟩ ⟨ar', an'⟩ _).mono ?_
          rw [LH.out]
          rintro e w6 ⟨rfl, y6, rfl⟩
          go_wp2
          go_roundw
          case rel => exact ⟨k + 1, m', ⟨br, bn⟩, ⟨true, ⟨ar', an'⟩, av'⟩, by omega, by go_num, Lib.hid (((B5.out.alloc (by (try simp only [World.size_alloc, size_ext, World.size_setCell]); omega) _).alloc (by (try simp only [World.size_alloc, size_ext, World.size_setCell]); omega) _).trans (below_ext.mono (by simp; omega))), Lib.hid (((T5.out.alloc _).alloc _).ext _), Lib.hid (hp_ext (hp_alloc _ (hp_alloc _ E1.out))), Lib.hid (hp_ext (hp_alloc _ (hp_alloc _ E2.out))), Lib.hid (hp_ext (hp_alloc _ (hp_alloc _ E3.out))), ON2⟩
          case measure => simp [intOf]; omega
      · have ON2 : Hid (OneI i7 m' ⟨pr, pn⟩ ⟨ai', ⟨ar', an'⟩, av'⟩) := Lib.hid (by simpa using ON.out)
        have GE2 : get10 m' i7 = (⟨pr, pn⟩, ⟨ai', ⟨ar', an'⟩, av'⟩, 0) := by simpa using GE.out
        go_upto_region 23 with fail
        have BD := B4
        have TD := T4
        have D1 := Y1
        have D2 := Y2
        have D3 := Y3
        clear B4 T4 Y0 Y1 Y2 Y3
        have wd' : wc = wc := rfl
        have y1 := D1.out
        have ld1 := lt_of_heap y1
        have d1 := fun j => cell_of_heap (i := j) y1
        have d1_0 := (d1 0).trans rfl
        have d1_1 := (d1 1).trans rfl
        have d1_2 := (d1 2).trans rfl
        have d1_3 := (d1 3).trans rfl
        simp only [List.getElem?_toArray, List.getElem?_cons_zero, List.getElem?_cons_succ] at d1_0 d1_1 d1_2 d1_3
        clear d1
        clear y1
        have C := acc_Get wc _ _ 4096 m' i7 TD.out i7wf
        rw [GE2] at C
        simp only [Inst.val, i7, Ballot.val, Acc.val] at C
        have CC := Lib.hid C
        clear C GE2 GE ON
        go_wp2_with fail
        refine CC.out.mono ?_
        rintro e w5 ⟨rfl, hy5⟩
        clear d1_0 d1_1 d1_2 d1_3 CC
        have e1 : w5.heap[w2.heap.size]? = some (.cells #[.int .u64 7, .int .i64 0, .int .i64 0, .int .u32 0] 31) := by obtain ⟨y, rfl⟩ := hy5; exact hp_ext D1.out
        have e2 : w5.heap[w2.heap.size + 1]? = some (.cells #[.int .u32 pr, .int .u8 pn] 33) := by obtain ⟨y, rfl⟩ := hy5; exact hp_ext D2.out
        have e3 : w5.heap[w2.heap.size + 1 + 1]? = some (.cells #[.bool ai', .int .u32 ar', .int .u8 an', .string av'] 35) := by obtain ⟨y, rfl⟩ := hy5; exact hp_ext D3.out
        have B5 : Hid (Below w.heap.size w w5) := Lib.hid (by obtain ⟨y, rfl⟩ := hy5; exact BD.out.trans (below_ext.mono (BD.out.size)))
        have T5 : Hid (Tab w5 (w.heap.size + 1) w.heap.size 4096 m') := Lib.hid (by obtain ⟨y, rfl⟩ := hy5; exact TD.out.ext _)
        have hs5 : w.heap.size ≤ w5.heap.size := B5.out.size
        have le1 := lt_of_heap e1
        have lg2 := lt_of_heap e2
        have g2 := fun j => cell_of_heap (i := j) e2
        have g2_0 := (g2 0).trans rfl
        have g2_1 := (g2 1).trans rfl
        simp only [List.getElem?_toArray, List.getElem?_cons_zero, List.getElem?_cons_succ] at g2_0 g2_1
        clear g2
        have lg3 := lt_of_heap e3
        have g3 := fun j => cell_of_heap (i := j) e3
        have g3_0 := (g3 0).trans rfl
        have g3_1 := (g3 1).trans rfl
        have g3_2 := (g3 2).trans rfl
        have g3_3 := (g3 3).trans rfl
        simp only [List.getElem?_toArray, List.getElem?_cons_zero, List.getElem?_cons_succ] at g3_0 g3_1 g3_2 g3_3
        clear g3
        have E1 := Lib.hid e1
        have E2 := Lib.hid e2
        have E3 := Lib.hid e3
        clear e1 e2 e3 hy5 BD TD D1 D2 D3
        cases ai'
        · go_wp2
          go_roundw
          case rel => exact ⟨k + 1, m', ⟨pr, pn⟩, ⟨false, ⟨ar', an'⟩, av'⟩, by omega, by go_num, Lib.hid ((B5.out.alloc (by (try simp only [World.size_alloc, size_ext, World.size_setCell]); omega) _).alloc (by (try simp only [World.size_alloc, size_ext, World.size_setCell]); omega) _), Lib.hid ((T5.out.alloc _).alloc _), Lib.hid (hp_alloc _ (hp_alloc _ E1.out)), Lib.hid (hp_alloc _ (hp_alloc _ E2.out)), Lib.hid (hp_alloc _ (hp_alloc _ E3.out)), ON2⟩
          case measure => simp [intOf]; omega
        · have LF : less ⟨pr, pn⟩ ⟨ar', an'⟩ = false := ON2.out.2 rfl
          have LH := Lib.hid LF
          clear LF
          go_wp2_with fail
          refine (acc_Less ⟨pr, pn⟩ ⟨ar', an'⟩ _).mono ?_
          rw [LH.out]
          rintro e w6 ⟨rfl, y6, rfl⟩
          go_wp2
          go_roundw
          case rel => exact ⟨k + 1, m', ⟨pr, pn⟩, ⟨true, ⟨ar', an'⟩, av'⟩, by omega, by go_num, Lib.hid (((B5.out.alloc (by (try simp only [World.size_alloc, size_ext, World.size_setCell]); omega) _).alloc (by (try simp only [World.size_alloc, size_ext, World.size_setCell]); omega) _).trans (below_ext.mono (by simp; omega))), Lib.hid (((T5.out.alloc _).alloc _).ext _), Lib.hid (hp_ext (hp_alloc _ (hp_alloc _ E1.out))), Lib.hid (hp_ext (hp_alloc _ (hp_alloc _ E2.out))), Lib.hid (hp_ext (hp_alloc _ (hp_alloc _ E3.out))), ON2⟩
          case measure => simp [intOf]; omega

theorem readAcceptorPromises_22 : Try.prog.readableRec 22 = true ∧ 22 < Try.prog.types.size := ⟨by kernel_rfl, of_decide_eq_true (by kernel_rfl)⟩
theorem ownAcceptorPromises : ownKnob Try.prog.godebug = none := by kernel_rfl
theorem laidOutAcceptorPromises : laidOutB Try.prog = true := by kernel_rfl
theorem contractAcceptorPromises (H : Type) (enc : TypeId × Value → H) (W : World) (base : Nat) (args : Array Value) (ds gs : List (DataW H)) (before : List MemPlace)
    (hval : ∀ (j : Nat) t v, Try.f3.params[j]? = some t → args[j]? = some v → Value.okWide Try.prog W .any base t v)
    (hW : DataW.Whole enc Try.prog Try.f3.params.toList Rows.acceptorPromisesSpec.vars false W args.toList ds gs before) (hk : Rows.uptoSmall H (ds ++ gs) = true) :
    Calls Try.prog 3 args W fun e W' => ∃ v, e = .returned v ∧ Rows.acceptorPromisesSpec.post enc Try.prog Try.f3 false true false false W args v W' := by
  have hfin : ∀ W', Below W.heap.size W W' → Rows.acceptorPromisesSpec.post enc Try.prog Try.f3 false true false false W args (.bool true) W' := fun W' hb =>
    post_of_walk (n := 1) (boolT := 4) rfl (fun ds h => by match ds, h with | [a0], _ => exact ⟨rfl, rfl, rfl⟩) rfl rfl Try.underlying4 laidOutAcceptorPromises (fun t ht => by rw [Try.params3] at ht; simp at ht; subst ht; exact readAcceptorPromises_22) hW hb
  have hN : Rows.uptoBulkAll (ds ++ gs) ≤ 1048576 := of_decide_eq_true hk
  obtain ⟨p, q, hA, hV, rfl, hfz, hnd⟩ := hW
  rw [Try.params3] at hA hval
  obtain ⟨v0, vs0, d0, ds0, p0, q0, hargs, rfl, rfl, h0, r0⟩ := trodAll_cons hA
  obtain ⟨rfl, rfl, rfl⟩ := trodAll_nil r0
  obtain rfl : args = #[v0] := by cases args; simp_all
  simp only [List.cons_append, List.nil_append, Rows.uptoBulkAll] at hN
  obtain ⟨A0, len0, cap0, rfl⟩ := okWide_slice Try.underlying22 (hval 0 22 v0 rfl rfl)
  obtain ⟨f0, g0⟩ := h0
  have ty0 := typed_of_trod (N := 1048576) f0 _ _ _ g0 (by simp only; omega)
  obtain ⟨l, hl⟩ := read_script (Nat.le_refl _) ty0
  exact (walkPromises _ l W hl).mono fun e W' ⟨he, hy⟩ => ⟨_, he, hfin W' hy⟩

set_option maxRecDepth 100000 in
theorem liftedAcceptorPromises (os : Os) (started : os.Started) (H : Type) (enc : TypeId × Value → H) (F : Stop.Interp) :
    ReturnsInHanded {} Try.checked os 3 .any ((Rows.OpenSpec.upto Rows.acceptorPromisesSpec).pre6 enc Try.prog Try.f3 Rows.acceptorPromisesUptoRow.domain false) (((Rows.OpenSpec.upto Rows.acceptorPromisesSpec).at F).post enc Try.prog Try.f3 false true false false) := by
  refine returnsInHanded_of_cond (C := Try.checked) (s := Rows.OpenSpec.upto Rows.acceptorPromisesSpec) (k := Rows.uptoSmall) rfl ownAcceptorPromises started (by kernel_rfl) Try.func3
    (OpenSpec.witness (enc := enc) (C := Try.checked) (s := Rows.OpenSpec.upto Rows.acceptorPromisesSpec) (k := Rows.uptoSmall) rfl false
      ⟨#[], #[.slice none 0 0], []⟩ 8 (by kernel_rfl) (by kernel_rfl) (by kernel_rfl)
      (x := ([.nil], [], [])) (by kernel_rfl) rfl (by kernel_rfl)) ?_
  intro W base args ds gs before hval hW _ hk _
  exact contractAcceptorPromises H enc W base args ds gs before hval hW hk

theorem AcceptorPromises_holds : Rows.AcceptorPromisesUptoSaid :=
  OpenClaim.holds_of_cond 3 Try.f3 rfl rfl rfl rfl rfl rfl rfl ⟨rfl, rfl, rfl, rfl, rfl⟩ rfl rfl rfl rfl rfl (by kernel_rfl) Try.func3 (by kernel_rfl)
    (of_decide_eq_true (by kernel_rfl)) (by unfold Func.isWrapper; first | (rw [if_pos (by decide +kernel)]; kernel_rfl) | (rw [if_neg (by decide +kernel)]; exact ⟨rfl, rfl⟩))
    (fun os started H enc _ F => liftedAcceptorPromises os started H enc F)
end Go.Proofs.Ytbpanhmpffjmfaa
