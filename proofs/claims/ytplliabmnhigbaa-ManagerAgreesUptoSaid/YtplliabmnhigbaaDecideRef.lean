/- WALKS: what the votes come to, as the document has it: it comes to the plain function. -/
import Derived.Test.YtplliabmnhigbaaDecide
import Derived.Test.YtplliabmnhigbaaTxRef
set_option linter.unusedVariables false
set_option linter.unusedSimpArgs false
namespace Go.Proofs.Ytplliabmnhigbaa
open Go.RowKit Go.Tk

set_option maxRecDepth 100000 in
set_option maxHeartbeats 1000000 in
theorem ref18_Decide (t : TxR) (vv : Value) (n : Nat) (fr : Nat → Nat → Int) (w : World) (hi : Items w t.data t.items) (hv : Votes w vv n fr) :
    Calls Try.prog 14 #[t.val, vv] w (Decided w (decide18 t.right n t.items.length fr (incsOf t.items))) := by
  obtain ⟨r, hr⟩ : ∃ r, r = decide18 t.right n t.items.length fr (incsOf t.items) := ⟨_, rfl⟩
  rw [← hr]
  have C := Lib.hid (fun W (h : Items W t.data t.items) => ref18_Right t W h)
  generalize t.right = rt at *
  obtain ⟨id, client, m0, m1, m2, data, l⟩ := t
  simp only at hi hr C
  unfold TxR.val at *
  simp only at C ⊢
  unfold decide18 at hr
  have HI := Lib.hid hi
  have HR := Lib.hid hr
  clear hr
  obtain ⟨hl, A, c, rfl, hc⟩ := hi
  have HC := Lib.hid hc
  clear hc
  obtain ⟨hn, B, d, rfl, hvc⟩ := hv
  have HV := Lib.hid hvc
  clear hvc
  by_cases hrn : rt = true ∧ n = l.length
  case neg =>
    have HN := Lib.hid hrn
    cases rt
    · clear hrn
      go_enter Try.func14, Try.ntmps14
      go_wp2_with (go_at_call 8; refine (C.out _ (HI.out.alloc _)).mono ?_; rintro e w1 ⟨rfl, y, rfl⟩)
      go_ret2
      exact .mk (by rw [HR.out]; simp) (below_of_ext ((Below.refl _ _).alloc (Nat.le_refl _) _) (by simp))
    · have hb : ((n : Int) == (l.length : Int)) = false := by rw [beq_eq_false_iff_ne]; exact fun h => hrn ⟨rfl, by omega⟩
      have hb' : ((n : Int) != (l.length : Int)) = true := by simp [bne, hb]
      clear hrn
      go_enter Try.func14, Try.ntmps14
      go_wp2_with (go_at_call 8; refine (C.out _ (HI.out.alloc _)).mono ?_; rintro e w1 ⟨rfl, y, rfl⟩)
      go_ret2
      exact .mk (by rw [HR.out, if_neg HN.out]; rfl) (below_of_ext ((Below.refl _ _).alloc (Nat.le_refl _) _) (by simp))
  obtain ⟨rfl, rfl⟩ := hrn
  obtain ⟨q1, q2, q3, q4, q5, q6⟩ := roomy (b := w.heap.size) (s := w.heap.size + 1) (by omega)
  go_enter Try.func14, Try.ntmps14
  go_wp2_with (go_at_call 8; refine (C.out _ (HI.out.alloc _)).mono ?_; rintro e w1 ⟨rfl, y0, rfl⟩)
  go_loopw [7, 8, 9] (fun p s i wr => ∃ (k : Nat) (y : Ext), k ≤ l.length ∧ i = .int .i64 k ∧ p = .bool (prep fr (incsOf l) k) ∧ s = .bool (sunk fr (incsOf l) k) ∧ wr = (w.alloc (.cells #[.int .u64 id, .int .i64 client, .int .i64 m0, .int .i64 m1, .int .i64 m2, .slice A l.length c] 26)).ext y ∧ rowsOk fr k = true) (fun _ _ i _ => l.length - (intOf i).toNat)
  case atStart => exact ⟨0, y0, by omega, rfl, rfl, rfl, rfl, rfl⟩
  case round =>
    obtain ⟨k, y, hk, rfl, rfl, rfl, rfl, hok⟩ := hrel
    have HOK := Lib.hid hok
    clear hok
    by_cases hlt : k < l.length
    · have hx : l[k]? = some l[k] := List.getElem?_eq_getElem hlt
      obtain ⟨he, b, off, rfl, hb, c0, c1, c2, c3, c4, c5, c6, c7⟩ := HC.out k _ hx
      obtain ⟨b', off', rfl, hb', v0, v1, v2, v3⟩ := HV.out k hlt
      obtain ⟨r1, r2, r3, r4, r5, r6⟩ := roomy hb
      obtain ⟨s1, s2, s3, s4, s5, s6⟩ := roomy hb'
      have hinc : incsOf l k = l[k].inc := by unfold incsOf; rw [hx]
      have PS := Lib.hid (prep_succ fr (incsOf l) k)
      have SS := Lib.hid (sunk_succ fr (incsOf l) k)
      have RS := Lib.hid (rowsOk_succ fr k)
      have RN := Lib.hid (fun h => rowsOk_no (fr := fr) hlt h)
      have hcell : ∀ j, j < 4 → w.cell? ⟨b, off + k * 8 + 4 + j, none⟩ = some (.int .u32 (incsOf l k j)) := by
        intro j hj
        rw [hinc]
        have hcase : j = 0 ∨ j = 1 ∨ j = 2 ∨ j = 3 := by omega
        rcases hcase with rfl | rfl | rfl | rfl <;> assumption
      have HCELL := Lib.hid hcell
      have vcell : ∀ j, j < 4 → w.cell? ⟨b', off' + k * 4 + j, none⟩ = some (.int .i64 (fr k j)) := by
        intro j hj
        have hcase : j = 0 ∨ j = 1 ∨ j = 2 ∨ j = 3 := by omega
        rcases hcase with rfl | rfl | rfl | rfl <;> assumption
      have VCELL := Lib.hid vcell
      clear vcell v0 v1 v2 v3
      clear hcell hinc c0 c1 c2 c3 c4 c5 c6 c7 he hx
      generalize incsOf l k = inc at *
      generalize hfr : fr k = f at *
      clear hfr
      have HROW := Lib.hid (fun (j : Nat) (hj : j < 4) (W : World) => index_row f hj W)
      have u1 := cn_le f inc 1 4
      have u0 := cn_le f inc 0 4
      generalize prep fr (incsOf l) k = pk at *
      generalize sunk fr (incsOf l) k = sk at *
      go_wp2
      go_loop [10, 11, 12] (fun yes op i => ∃ (j : Nat), j ≤ 4 ∧ i = .int .i64 j ∧ yes = .int .i64 (cn f inc 1 j : Nat) ∧ op = .int .i64 (cn f inc 1 j + cn f inc 0 j : Nat) ∧ (∀ i, i < j → 0 ≤ f i ∧ f i ≤ 2)) (fun _ _ i => 4 - (intOf i).toNat)
      case atStart => exact ⟨0, by omega, rfl, rfl, rfl, fun i hi => by omega⟩
      case round =>
        obtain ⟨j, hj, rfl, rfl, rfl, hall⟩ := hrel
        have HA := Lib.hid hall
        clear hall
        by_cases hj4 : j < 4
        · have vcell := VCELL.out j hj4
          have hcell := HCELL.out j hj4
          have w0 := cn_le f inc 0 j
          have w1 := cn_le f inc 1 j
          have w2 := cn_le f inc 2 j
          have CS := Lib.hid (fun v => show cn f inc v (j + 1) = cn f inc v j + if f j = v ∧ inc j ≠ 0 then 1 else 0 from rfl)
          have RO := Lib.hid (fun h => RN.out (rowOk_no (f := f) hj4 h))
          have HA' := Lib.hid (fun (h : 0 ≤ f j ∧ f j ≤ 2) i (hi : i < j + 1) => (Nat.lt_succ_iff_lt_or_eq.1 hi).elim (HA.out i) (fun e => e ▸ h))
          generalize f j = v at *
          generalize inc j = ij at *
          by_cases hv : 0 ≤ v ∧ v ≤ 2
          · by_cases hij : ij = 0
            · subst hij
              have hb0 : ((0 : Int) == 0) = true := rfl
              go_wp2
              go_round
              case rel => exact ⟨j + 1, by omega, by go_num, by rw [CS.out 1]; simp; try omega, by rw [CS.out 0, CS.out 1]; simp; try omega, HA'.out hv⟩
              case measure => simp [intOf]; omega
            · have hb0 : (ij == 0) = false := by simp [hij]
              have HIJ := Lib.hid hij
              clear hij
              have hcase : v = 0 ∨ v = 1 ∨ v = 2 := by omega
              rcases hcase with rfl | rfl | rfl
              · go_wp2
                go_round
                case rel => exact ⟨j + 1, by omega, by go_num, by rw [CS.out 1]; simp [HIJ.out]; try omega, by rw [CS.out 0, CS.out 1]; simp [HIJ.out]; try omega, HA'.out hv⟩
                case measure => simp [intOf]; omega
              · go_wp2
                go_round
                case rel => exact ⟨j + 1, by omega, by go_num, by rw [CS.out 1]; simp [HIJ.out]; try omega, by rw [CS.out 0, CS.out 1]; simp [HIJ.out]; try omega, HA'.out hv⟩
                case measure => simp [intOf]; omega
              · go_wp2
                go_round
                case rel => exact ⟨j + 1, by omega, by go_num, by rw [CS.out 1]; simp [HIJ.out]; try omega, by rw [CS.out 0, CS.out 1]; simp [HIJ.out]; try omega, HA'.out hv⟩
                case measure => simp [intOf]; omega
          · have RO' := Lib.hid (RO.out hv)
            go_wp2
            all_goals
              go_ret2
              exact .mk (by rw [HR.out, RO'.out]; simp) (below_of_ext ((Below.refl _ _).alloc (Nat.le_refl _) _) (by simp))
        · obtain rfl : j = 4 := by omega
          have hok1 := rowOk_yes HA.out
          have HO1 := Lib.hid hok1
          clear hok1
          generalize cn f inc 0 4 = n0 at *
          generalize cn f inc 1 4 = n1 at *
          cases pk <;> cases sk
          all_goals
            go_wp2
            all_goals
              go_roundw
              case rel => exact ⟨k + 1, _, by omega, by go_num, vbool (by rw [PS.out]; simp; try omega), vbool (by rw [SS.out]; simp; try omega), rfl, by rw [RS.out, HOK.out, HO1.out]; rfl⟩
              case measure => simp [intOf]; omega
    · obtain rfl : k = l.length := by omega
      generalize prep fr (incsOf l) l.length = pk at *
      generalize sunk fr (incsOf l) l.length = sk at *
      cases pk <;> cases sk
      all_goals
        go_wp2
        go_ret2
        exact .mk (by rw [HR.out, HOK.out]; simp) (below_of_ext ((Below.refl _ _).alloc (Nat.le_refl _) _) (by simp))
end Go.Proofs.Ytplliabmnhigbaa
