/- WALKS: what the votes come to (votes.Decide), as the program has it: it comes to the plain function. -/
import Derived.Test.YtplliabmnhigbaaTx
set_option linter.unusedVariables false
set_option linter.unusedSimpArgs false
namespace Go.Proofs.Ytplliabmnhigbaa
open Go.RowKit Go.Tk

/-- a slice of votes: n rows, 'f i k' -/
def Votes (w : World) (v : Value) (n : Nat) (f : Nat → Nat → Int) : Prop :=
  n ≤ 1048576 ∧ ∃ A c, v = .slice A n c ∧ ∀ i, i < n → ∃ b off, A = some ⟨b, off, none⟩ ∧ b < w.heap.size ∧
    w.cell? ⟨b, off + i * 4, none⟩ = some (.int .i64 (f i 0)) ∧ w.cell? ⟨b, off + i * 4 + 1, none⟩ = some (.int .i64 (f i 1)) ∧ w.cell? ⟨b, off + i * 4 + 2, none⟩ = some (.int .i64 (f i 2)) ∧ w.cell? ⟨b, off + i * 4 + 3, none⟩ = some (.int .i64 (f i 3))
theorem Votes.of {w w' : World} {v : Value} {n : Nat} {f : Nat → Nat → Int} (h : Votes w v n f) (hs : w.heap.size ≤ w'.heap.size) (hb : ∀ b o, b < w.heap.size → w'.cell? ⟨b, o, none⟩ = w.cell? ⟨b, o, none⟩) : Votes w' v n f := by
  obtain ⟨h1, A, c, h3, h4⟩ := h
  refine ⟨h1, A, c, h3, fun i hi => ?_⟩
  obtain ⟨b, off, h6, h7, h8⟩ := h4 i hi
  refine ⟨b, off, h6, by omega, ?_⟩
  simp only [hb b _ h7]
  exact h8
theorem Votes.ext {w : World} {v : Value} {n : Nat} {f : Nat → Nat → Int} {x : Ext} (h : Votes w v n f) : Votes (w.ext x) v n f := h.of (by rw [size_ext]; omega) (fun b o hb => cell?_ext hb)
theorem Votes.alloc {w : World} {v : Value} {n : Nat} {f : Nat → Nat → Int} (o : Obj) (h : Votes w v n f) : Votes (w.alloc o) v n f := h.of (by simp) (fun b i hb => World.cell?_alloc_lt _ _ _ hb)

def rowOk (f : Nat → Int) : Bool := (List.range 4).all fun k => decide (0 ≤ f k ∧ f k ≤ 2)
/-- how many of the first k that count are v -/
def cn (f inc : Nat → Int) (v : Int) : Nat → Nat
  | 0 => 0
  | k + 1 => cn f inc v k + if f k = v ∧ inc k ≠ 0 then 1 else 0
theorem cn_le (f inc : Nat → Int) (v : Int) : ∀ k, cn f inc v k ≤ k
  | 0 => Nat.le_refl _
  | k + 1 => by have := cn_le f inc v k; simp only [cn]; split <;> omega
def prep (fr fi : Nat → Nat → Int) (k : Nat) : Bool := (List.range k).all fun i => decide (3 ≤ cn (fr i) (fi i) 1 4)
def sunk (fr fi : Nat → Nat → Int) (k : Nat) : Bool := (List.range k).any fun i => decide (cn (fr i) (fi i) 1 4 + cn (fr i) (fi i) 0 4 < 3)
def rowsOk (fr : Nat → Nat → Int) (k : Nat) : Bool := (List.range k).all fun i => rowOk (fr i)
theorem prep_succ (fr fi : Nat → Nat → Int) (k : Nat) : prep fr fi (k + 1) = (prep fr fi k && decide (3 ≤ cn (fr k) (fi k) 1 4)) := by simp [prep, List.range_succ, List.all_append]
theorem sunk_succ (fr fi : Nat → Nat → Int) (k : Nat) : sunk fr fi (k + 1) = (sunk fr fi k || decide (cn (fr k) (fi k) 1 4 + cn (fr k) (fi k) 0 4 < 3)) := by simp [sunk, List.range_succ, List.any_append]
theorem rowsOk_succ (fr : Nat → Nat → Int) (k : Nat) : rowsOk fr (k + 1) = (rowsOk fr k && rowOk (fr k)) := by simp [rowsOk, List.range_succ, List.all_append]
theorem rowsOk_no {fr : Nat → Nat → Int} {k n : Nat} (hk : k < n) (h : rowOk (fr k) = false) : rowsOk fr n = false := by
  unfold rowsOk
  rw [List.all_eq_false]
  exact ⟨k, List.mem_range.2 hk, by simp [h]⟩
theorem rowOk_no {f : Nat → Int} {k : Nat} (hk : k < 4) (h : ¬ (0 ≤ f k ∧ f k ≤ 2)) : rowOk f = false := by
  unfold rowOk
  rw [List.all_eq_false]
  exact ⟨k, List.mem_range.2 hk, by simpa using h⟩
theorem rowOk_yes {f : Nat → Int} (h : ∀ k, k < 4 → 0 ≤ f k ∧ f k ≤ 2) : rowOk f = true := by
  unfold rowOk
  rw [List.all_eq_true]
  exact fun x hx => by simpa using h x (List.mem_range.1 hx)
/-- what the votes come to: the vote, the error -/
def decide18 (right : Bool) (n m : Nat) (fr fi : Nat → Nat → Int) : Int × Int :=
  if right = true ∧ n = m then if rowsOk fr n then if prep fr fi n then (1, 0) else if sunk fr fi n then (2, 0) else (0, 0) else (0, 181) else (0, 181)
def incsOf (l : List ItemR) (i : Nat) : Nat → Int := match l[i]? with | some x => x.inc | none => fun _ => 0
def Decided (w : World) (d : Int × Int) (e : Ending) (w' : World) : Prop := Gives w (.tuple #[.int .i64 d.1, .int .i64 d.2]) e w'

theorem index_row (f : Nat → Int) {k : Nat} (hk : k < 4) (w : World) : (Instr.index 38 (.agg #[.int .i64 (f 0), .int .i64 (f 1), .int .i64 (f 2), .int .i64 (f 3)]) (.int .i64 (k : Nat))).run Try.prog w = .ok (.int .i64 (f k)) w := by
  have i0 : ∀ (a b c d : Int) w, (Instr.index 38 (.agg #[.int .i64 a, .int .i64 b, .int .i64 c, .int .i64 d]) (.int .i64 0)).run Try.prog w = .ok (.int .i64 a) w := fun _ _ _ _ _ => by kernel_rfl
  have i1 : ∀ (a b c d : Int) w, (Instr.index 38 (.agg #[.int .i64 a, .int .i64 b, .int .i64 c, .int .i64 d]) (.int .i64 1)).run Try.prog w = .ok (.int .i64 b) w := fun _ _ _ _ _ => by kernel_rfl
  have i2 : ∀ (a b c d : Int) w, (Instr.index 38 (.agg #[.int .i64 a, .int .i64 b, .int .i64 c, .int .i64 d]) (.int .i64 2)).run Try.prog w = .ok (.int .i64 c) w := fun _ _ _ _ _ => by kernel_rfl
  have i3 : ∀ (a b c d : Int) w, (Instr.index 38 (.agg #[.int .i64 a, .int .i64 b, .int .i64 c, .int .i64 d]) (.int .i64 3)).run Try.prog w = .ok (.int .i64 d) w := fun _ _ _ _ _ => by kernel_rfl
  have hcase : k = 0 ∨ k = 1 ∨ k = 2 ∨ k = 3 := by omega
  rcases hcase with rfl | rfl | rfl | rfl
  · exact i0 _ _ _ _ _
  · exact i1 _ _ _ _ _
  · exact i2 _ _ _ _ _
  · exact i3 _ _ _ _ _

set_option maxRecDepth 100000 in
set_option maxHeartbeats 1000000 in
theorem votes_Decide (t : TxR) (vv : Value) (n : Nat) (fr : Nat → Nat → Int) (w : World) (hi : Items w t.data t.items) (hw : (Lit.int .i64 t.m0).wf = true ∧ (Lit.int .i64 t.m1).wf = true ∧ (Lit.int .i64 t.m2).wf = true) (hv : Votes w vv n fr) :
    Calls Try.prog 40 #[t.val, vv] w (Decided w (decide18 t.right n t.items.length fr (incsOf t.items))) := by
  obtain ⟨r, hr⟩ : ∃ r, r = decide18 t.right n t.items.length fr (incsOf t.items) := ⟨_, rfl⟩
  rw [← hr]
  have C := Lib.hid (fun W (h : Items W t.data t.items) => votes_Right t W h hw)
  generalize t.right = rt at *
  obtain ⟨id, client, m0, m1, m2, data, l⟩ := t
  simp only at hi hr C
  unfold TxR.val at *
  simp only at C ⊢
  unfold decide18 at hr
  have HI := Lib.hid hi
  have HR := Lib.hid hr
  clear hr hw
  obtain ⟨hl, A, c, rfl, hc⟩ := hi
  have HC := Lib.hid hc
  clear hc
  obtain ⟨hn, B, d, rfl, hvc⟩ := hv
  have HV := Lib.hid hvc
  clear hvc
  by_cases hrn : rt = true ∧ n = l.length
  case neg =>
    have HN := Lib.hid hrn
    cases rt
    · clear hrn
      go_enter Try.func40, Try.ntmps40
      go_wp2_with (go_at_call 32; refine (C.out _ (HI.out.alloc _)).mono ?_; rintro e w1 ⟨rfl, y, rfl⟩)
      go_ret2
      exact .mk (by rw [HR.out]; simp) (below_of_ext ((Below.refl _ _).alloc (Nat.le_refl _) _) (by simp))
    · have hb : ((n : Int) == (l.length : Int)) = false := by rw [beq_eq_false_iff_ne]; exact fun h => hrn ⟨rfl, by omega⟩
      have hb' : ((n : Int) != (l.length : Int)) = true := by simp [bne, hb]
      clear hrn
      go_enter Try.func40, Try.ntmps40
      go_wp2_with (go_at_call 32; refine (C.out _ (HI.out.alloc _)).mono ?_; rintro e w1 ⟨rfl, y, rfl⟩)
      go_ret2
      exact .mk (by rw [HR.out, if_neg HN.out]; rfl) (below_of_ext ((Below.refl _ _).alloc (Nat.le_refl _) _) (by simp))
  obtain ⟨rfl, rfl⟩ := hrn
  obtain ⟨q1, q2, q3, q4, q5, q6⟩ := roomy (b := w.heap.size) (s := w.heap.size + 1) (by omega)
  go_enter Try.func40, Try.ntmps40
  go_wp2_with (go_at_call 32; refine (C.out _ (HI.out.alloc _)).mono ?_; rintro e w1 ⟨rfl, y0, rfl⟩)
  go_loopw [6, 7, 26] (fun p s i wr => ∃ (k : Nat) (y : Ext), k ≤ l.length ∧ i = .int .i64 k ∧ p = .bool (prep fr (incsOf l) k) ∧ s = .bool (sunk fr (incsOf l) k) ∧ wr = (w.alloc (.cells #[.int .u64 id, .int .i64 client, .int .i64 m0, .int .i64 m1, .int .i64 m2, .slice A l.length c] 26)).ext y ∧ rowsOk fr k = true) (fun _ _ i _ => l.length - (intOf i).toNat)
  case atStart => exact ⟨0, y0, by omega, rfl, rfl, rfl, rfl, rfl⟩
  case round =>
    obtain ⟨k, y, hk, rfl, rfl, rfl, rfl, hok⟩ := hrel
    have HOK := Lib.hid hok
    clear hok
    by_cases hlt : k < l.length
    · have hx : l[k]? = some l[k] := List.getElem?_eq_getElem hlt
      obtain ⟨he, b, off, rfl, hb, c0, c1, c2, c3, c4, c5, c6, c7⟩ := HC.out k _ hx
      obtain ⟨b', off', rfl, hb', v0, v1, v2, v3⟩ := HV.out k hlt
      obtain ⟨r1, r2, r3, r4, r5, r6⟩ := roomy hb
      obtain ⟨s1, s2, s3, s4, s5, s6⟩ := roomy hb'
      have hinc : incsOf l k = l[k].inc := by unfold incsOf; rw [hx]
      have PS := Lib.hid (prep_succ fr (incsOf l) k)
      have SS := Lib.hid (sunk_succ fr (incsOf l) k)
      have RS := Lib.hid (rowsOk_succ fr k)
      have RN := Lib.hid (fun h => rowsOk_no (fr := fr) hlt h)
      have hcell : ∀ j, j < 4 → w.cell? ⟨b, off + k * 8 + 4 + j, none⟩ = some (.int .u32 (incsOf l k j)) := by
        intro j hj
        rw [hinc]
        have hcase : j = 0 ∨ j = 1 ∨ j = 2 ∨ j = 3 := by omega
        rcases hcase with rfl | rfl | rfl | rfl <;> assumption
      have HCELL := Lib.hid hcell
      clear hcell hinc c0 c1 c2 c3 c4 c5 c6 c7 he hx
      generalize incsOf l k = inc at *
      generalize hfr : fr k = f at *
      clear hfr
      have HROW := Lib.hid (fun (j : Nat) (hj : j < 4) (W : World) => index_row f hj W)
      have u1 := cn_le f inc 1 4
      have u0 := cn_le f inc 0 4
      generalize prep fr (incsOf l) k = pk at *
      generalize sunk fr (incsOf l) k = sk at *
      go_wp2
      go_loopw [32] (fun i wr => ∃ (j : Nat), j ≤ 4 ∧ i = .int .i64 j ∧ wr = (((w.alloc (.cells #[.int .u64 id, .int .i64 client, .int .i64 m0, .int .i64 m1, .int .i64 m2, .slice (some ⟨b, off, none⟩) l.length c] 26)).ext y).alloc (.cells #[.int .i64 (f 0), .int .i64 (f 1), .int .i64 (f 2), .int .i64 (f 3)] 38)).alloc (.cells #[.int .i64 (cn f inc 0 j : Nat), .int .i64 (cn f inc 1 j : Nat), .int .i64 (cn f inc 2 j : Nat)] 23) ∧ (∀ i, i < j → 0 ≤ f i ∧ f i ≤ 2)) (fun i _ => 4 - (intOf i).toNat)
      case atStart => exact ⟨0, by omega, rfl, rfl, fun i hi => by omega⟩
      case round =>
        obtain ⟨j, hj, rfl, rfl, hall⟩ := hrel
        have HA := Lib.hid hall
        clear hall
        by_cases hj4 : j < 4
        · have hrow := HROW.out j hj4
          have hcell := HCELL.out j hj4
          have w0 := cn_le f inc 0 j
          have w1 := cn_le f inc 1 j
          have w2 := cn_le f inc 2 j
          have CS := Lib.hid (fun v => show cn f inc v (j + 1) = cn f inc v j + if f j = v ∧ inc j ≠ 0 then 1 else 0 from rfl)
          have RO := Lib.hid (fun h => RN.out (rowOk_no (f := f) hj4 h))
          have HA' := Lib.hid (fun (h : 0 ≤ f j ∧ f j ≤ 2) i (hi : i < j + 1) => (Nat.lt_succ_iff_lt_or_eq.1 hi).elim (HA.out i) (fun e => e ▸ h))
          generalize f j = v at *
          generalize inc j = ij at *
          by_cases hv : 0 ≤ v ∧ v ≤ 2
          · by_cases hij : ij = 0
            · subst hij
              have hb0 : ((0 : Int) != 0) = false := rfl
              go_wp2
              go_roundw
              case rel => exact ⟨j + 1, by omega, by go_num, by rw [CS.out 0, CS.out 1, CS.out 2]; simp, HA'.out hv⟩
              case measure => simp [intOf]; omega
            · have hb0 : (ij != 0) = true := by simp [hij]
              have HIJ := Lib.hid hij
              clear hij
              have hcase : v = 0 ∨ v = 1 ∨ v = 2 := by omega
              rcases hcase with rfl | rfl | rfl
              · go_wp2
                go_roundw
                case rel => exact ⟨j + 1, by omega, by go_num, by rw [CS.out 0, CS.out 1, CS.out 2]; simp [HIJ.out], HA'.out hv⟩
                case measure => simp [intOf]; omega
              · go_wp2
                go_roundw
                case rel => exact ⟨j + 1, by omega, by go_num, by rw [CS.out 0, CS.out 1, CS.out 2]; simp [HIJ.out], HA'.out hv⟩
                case measure => simp [intOf]; omega
              · go_wp2
                go_roundw
                case rel => exact ⟨j + 1, by omega, by go_num, by rw [CS.out 0, CS.out 1, CS.out 2]; simp [HIJ.out], HA'.out hv⟩
                case measure => simp [intOf]; omega
          · have RO' := Lib.hid (RO.out hv)
            go_wp2
            all_goals
              go_ret2
              exact .mk (by rw [HR.out, RO'.out]; simp) (Below.alloc (Below.alloc (below_of_ext ((Below.refl _ _).alloc (Nat.le_refl _) _) (by simp)) (by simp [size_ext]; omega) _) (by simp [size_ext]; omega) _)
        · obtain rfl : j = 4 := by omega
          have hok1 := rowOk_yes HA.out
          have HO1 := Lib.hid hok1
          clear hok1
          generalize cn f inc 0 4 = n0 at *
          generalize cn f inc 1 4 = n1 at *
          cases pk <;> cases sk
          all_goals
            go_wp2
            all_goals
              go_roundw
              case rel => exact ⟨k + 1, _, by omega, by go_num, vbool (by rw [PS.out]; simp; try omega), vbool (by rw [SS.out]; simp; try omega), by rw [ext_alloc, ext_alloc], by rw [RS.out, HOK.out, HO1.out]; rfl⟩
              case measure => simp [intOf]; omega
    · obtain rfl : k = l.length := by omega
      generalize prep fr (incsOf l) l.length = pk at *
      generalize sunk fr (incsOf l) l.length = sk at *
      cases pk <;> cases sk
      all_goals
        go_wp2
        go_ret2
        exact .mk (by rw [HR.out, HOK.out]; simp) (below_of_ext ((Below.refl _ _).alloc (Nat.le_refl _) _) (by simp))
end Go.Proofs.Ytplliabmnhigbaa
