/- WALKS: which of n things a raw number speaks of; the document's votes. -/
import Derived.Test.YtplliabmnhigbaaOrdQ19
import Derived.Test.YtplliabmnhigbaaRead19
import Derived.Test.YtplliabmnhigbaaDecideRef
set_option linter.unusedVariables false
set_option linter.unusedSimpArgs false
namespace Go.Proofs.Ytplliabmnhigbaa
open Go.RowKit Go.WideShapes Go.ChangeShapes Go.Tk
def pick11 (c n : Int) : Int := (if c < 0 then -(c + 1) else c) % n
theorem pick11_range {c n : Int} (h : 1 ≤ n) : 0 ≤ pick11 c n ∧ pick11 c n < n := by
  unfold pick11
  exact ⟨Int.emod_nonneg _ (by omega), Int.emod_lt_of_pos _ (by omega)⟩
set_option maxRecDepth 100000 in
theorem law_pick (c n : Int) (w : World) (hc : -9223372036854775808 ≤ c ∧ c ≤ 9223372036854775807) (hn : 1 ≤ n) (hn2 : n ≤ 1000000) : Calls Try.prog 11 #[.int .i64 c, .int .i64 n] w (fun e w' => e = .returned (.int .i64 (pick11 c n)) ∧ Mem w [] w' []) := by
  obtain ⟨hc1, hc2⟩ := hc
  obtain ⟨v, hv⟩ : ∃ v, v = pick11 c n := ⟨_, rfl⟩
  rw [← hv]
  have HV := Lib.hid hv
  clear hv
  have O : Mem w [] w [] := Mem.begin
  by_cases h : c < 0
  · obtain ⟨d, hd⟩ : ∃ d, d = -(c + 1) := ⟨_, rfl⟩
    obtain rfl : c = -d - 1 := by omega
    have hd0 : 0 ≤ d := by omega
    have hv : v = d % n := by rw [HV.out]; unfold pick11; rw [if_pos h]; congr 1; omega
    clear HV hd
    have hs : IntKind.i64.wrap (-d - 1 + 1) = -d := by simp [IntKind.wrap, IntKind.signed, IntKind.bits]; omega
    have hs2 : IntKind.i64.wrap (- -d) = d := by simp [IntKind.wrap, IntKind.signed, IntKind.bits]; omega
    have HV2 := Lib.hid hv
    clear hv
    go_enter Try.func11, Try.ntmps11
    go_wp2
    go_ret
    refine ⟨?_, O⟩
    rw [HV2.out]
    simp
  · have h0 : 0 ≤ c := by omega
    have hv : v = c % n := by rw [HV.out]; unfold pick11; rw [if_neg h]
    have HV2 := Lib.hid hv
    clear hv HV
    go_enter Try.func11, Try.ntmps11
    go_wp2
    go_ret
    refine ⟨?_, O⟩
    rw [HV2.out]
    simp
def inI64 (c : Int) : Prop := -9223372036854775808 ≤ c ∧ c ≤ 9223372036854775807
def pickN (c : Int) (n : Nat) : Nat := (pick11 c n).toNat
theorem pickN_eq {c : Int} {n : Nat} (h : 1 ≤ n) : pick11 c n = (pickN c n : Int) := by
  have := (pick11_range (c := c) (n := n) (by omega)).1
  unfold pickN
  omega
theorem pickN_lt {c : Int} {n : Nat} (h : 1 ≤ n) : pickN c n < n := by
  have := (pick11_range (c := c) (n := n) (by omega)).2
  have h2 := pickN_eq (c := c) h
  omega
theorem q_pick (c : Int) (n : Nat) (hc : inI64 c) (hn : 1 ≤ n) (hn2 : n ≤ 1000000) (w : World) : Calls Try.prog 11 #[.int .i64 c, .int .i64 (n : Int)] w (fun e w' => e = .returned (.int .i64 (pickN c n : Int)) ∧ Mem w [] w' []) := by
  rw [← pickN_eq hn]
  exact law_pick c n w hc (by omega) (by omega)
theorem q_rRight (w : World) (t : TxS) (h : t.At w) : Calls Try.prog 8 #[t.val] w (fun e w' => e = .returned (.bool t.r.right) ∧ Mem w [] w' []) :=
  (ref18_Right t.r w (items_at h.len h.at_ h.ents)).mono fun e w' ⟨he, y, hy⟩ => ⟨he, by rw [hy]; exact Mem.begin.ext⟩
theorem q_Text (v : Int) (w : World) : Calls Try.prog 12 #[.int .i64 v] w (fun e w' => e = .returned (.string (textOf v)) ∧ Mem w [] w' []) :=
  (ref18_Text v w).mono fun e w' ⟨he, y, hy⟩ => ⟨he, by rw [hy]; exact Mem.begin.ext⟩
theorem Votes.fr {w w' : World} {v : Value} {n : Nat} {f : Nat → Nat → Int} (h : Votes w v n f) (fr : Fr [] w w') : Votes w' v n f := h.of fr.size (fun b o hb => fr.cell hb)
theorem q_rDecide (w : World) (t : TxS) (h : t.At w) (vv : Value) (n : Nat) (fr : Nat → Nat → Int) (hv : Votes w vv n fr) : Calls Try.prog 14 #[t.val, vv] w (fun e w' => e = .returned (.tuple #[.int .i64 (decide18 t.r.right n t.s.length fr (incsOf (t.s.map ItS.r))).1, .int .i64 (decide18 t.r.right n t.s.length fr (incsOf (t.s.map ItS.r))).2]) ∧ Mem w [] w' []) := by
  have := ref18_Decide t.r vv n fr w (items_at h.len h.at_ h.ents) hv
  have e : t.r.items.length = t.s.length := by simp [TxS.r]
  rw [e] at this
  exact this.mono fun e w' ⟨he, y, hy⟩ => ⟨he, by rw [hy]; exact Mem.begin.ext⟩
end Go.Proofs.Ytplliabmnhigbaa
