/- WALK: which of n things a raw number speaks of (the law's own pick). -/
import Derived.Test.YtkhpikjmhamppaaLive11
import Derived.Test.YtkhpikjmhamppaaRead11
import Derived.Test.YtkhpikjmhamppaaArgs
set_option linter.unusedVariables false
set_option linter.unusedSimpArgs false
namespace Go.Proofs.Ytkhpikjmhamppaa
open Go.RowKit Go.Tk

def pick11 (c n : Int) : Int := (if c < 0 then -(c + 1) else c) % n
theorem pick11_range {c n : Int} (h : 1 ≤ n) : 0 ≤ pick11 c n ∧ pick11 c n < n := by
  unfold pick11
  exact ⟨Int.emod_nonneg _ (by omega), Int.emod_lt_of_pos _ (by omega)⟩
set_option maxRecDepth 100000 in
theorem law_pick (c n : Int) (w : World) (hc : -9223372036854775808 ≤ c ∧ c ≤ 9223372036854775807) (hn : 1 ≤ n) (hn2 : n ≤ 1000000) : Calls Try.prog 8 #[.int .i64 c, .int .i64 n] w (fun e w' => e = .returned (.int .i64 (pick11 c n)) ∧ Mem w [] w' []) := by
  obtain ⟨hc1, hc2⟩ := hc
  obtain ⟨v, hv⟩ : ∃ v, v = pick11 c n := ⟨_, rfl⟩
  rw [← hv]
  have HV := Lib.hid hv
  clear hv
  have O : Mem w [] w [] := Mem.begin
  by_cases h : c < 0
  · obtain ⟨d, hd⟩ : ∃ d, d = -(c + 1) := ⟨_, rfl⟩
    obtain rfl : c = -d - 1 := by omega
    have hd0 : 0 ≤ d := by omega
    have hv : v = d % n := by rw [HV.out]; unfold pick11; rw [if_pos h]; congr 1; omega
    clear HV hd
    have hs : IntKind.i64.wrap (-d - 1 + 1) = -d := by simp [IntKind.wrap, IntKind.signed, IntKind.bits]; omega
    have hs2 : IntKind.i64.wrap (- -d) = d := by simp [IntKind.wrap, IntKind.signed, IntKind.bits]; omega
    have HV2 := Lib.hid hv
    clear hv
    go_enter Try.func8, Try.ntmps8
    go_wp2
    go_ret
    refine ⟨?_, O⟩
    rw [HV2.out]
    simp
  · have h0 : 0 ≤ c := by omega
    have hv : v = c % n := by rw [HV.out]; unfold pick11; rw [if_neg h]
    have HV2 := Lib.hid hv
    clear hv HV
    go_enter Try.func8, Try.ntmps8
    go_wp2
    go_ret
    refine ⟨?_, O⟩
    rw [HV2.out]
    simp
end Go.Proofs.Ytkhpikjmhamppaa
