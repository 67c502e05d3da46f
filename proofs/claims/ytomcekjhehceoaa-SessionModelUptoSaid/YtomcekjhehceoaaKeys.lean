/- WALKS: keys: MayKey, MayValue, Of, Bucket, KeyBucket, and the document's: each comes to the plain function. -/
import Derived.Test.YtomcekjhehceoaaProg
import Derived.Test.YtomcekjhehceoaaKit
import Derived.Test.YtomcekjhehceoaaPlain1
import Derived.Outline
set_option linter.unusedVariables false
set_option linter.unusedSimpArgs false
namespace Go.Proofs.Ytomcekjhehceoaa
open Go.RowKit Go.Tk

def mayKey (s : ByteArray) : Bool := decide (1 ≤ s.size) && decide (s.size ≤ 32)
def mayValue (s : ByteArray) : Bool := decide (s.size ≤ 64)
theorem keys_MayKey (s : ByteArray) (w : World) (hs : s.size ≤ maxLen) : Calls Try.prog 37 #[.string s] w (Gives w (.bool (mayKey s))) := by
  unfold maxLen at hs
  go_enter Try.func37, Try.ntmps37
  go_wp2
  · go_ret
    exact .mk (vbool (by simp [mayKey]; omega)) (Below.refl _ _)
  · go_ret
    exact .mk (vbool (by simp [mayKey]; omega)) (Below.refl _ _)
theorem ref01_MayKey (s : ByteArray) (w : World) (hs : s.size ≤ maxLen) : Calls Try.prog 57 #[.string s] w (Gives w (.bool (mayKey s))) := by
  unfold maxLen at hs
  go_enter Try.func57, Try.ntmps57
  go_wp2
  · go_ret
    exact .mk (vbool (by simp [mayKey]; omega)) (Below.refl _ _)
  · go_ret
    exact .mk (vbool (by simp [mayKey]; omega)) (Below.refl _ _)
theorem keys_MayValue (s : ByteArray) (w : World) (hs : s.size ≤ maxLen) : Calls Try.prog 41 #[.string s] w (Gives w (.bool (mayValue s))) := by
  unfold maxLen at hs
  go_enter Try.func41, Try.ntmps41
  go_wp2
  go_ret
  exact .mk (vbool (by simp [mayValue]; omega)) (Below.refl _ _)
theorem ref01_MayValue (s : ByteArray) (w : World) (hs : s.size ≤ maxLen) : Calls Try.prog 58 #[.string s] w (Gives w (.bool (mayValue s))) := by
  unfold maxLen at hs
  go_enter Try.func58, Try.ntmps58
  go_wp2
  go_ret
  exact .mk (vbool (by simp [mayValue]; omega)) (Below.refl _ _)

def half0 (s : ByteArray) (k : Nat) : Nat := num s 0 (min k 8) * 256 ^ (8 - min k 8)
def half1 (s : ByteArray) (k : Nat) : Nat := num s 8 (k - 8) * 256 ^ (8 - (k - 8))
theorem half0_zero (s : ByteArray) : half0 s 0 = 0 := by simp [half0, num]
theorem half1_zero (s : ByteArray) : half1 s 0 = 0 := by simp [half1, num]
theorem half_end (s : ByteArray) (k : Nat) (hk : k ≤ 16) (h : s.size ≤ k ∨ k = 16) : half0 s k = posHi s ∧ half1 s k = posLo s := by
  unfold half0 half1 posHi posLo
  rcases h with h | rfl
  · constructor
    · rcases Nat.lt_or_ge k 8 with h8 | h8
      · rw [Nat.min_eq_left (by omega), ← num_more s 0 k (by omega), show k + (8 - k) = 8 by omega]
      · rw [Nat.min_eq_right h8]; simp
    · rcases Nat.lt_or_ge k 8 with h8 | h8
      · rw [num_out s 8 8 (by omega), num_out s 8 _ (by omega)]; simp
      · rw [← num_more s 8 (k - 8) (by omega), show k - 8 + (8 - (k - 8)) = 8 by omega]
  · simp
theorem half0_step (s : ByteArray) (k : Nat) (h8 : k < 8) (hlt : k < s.size) :
    bits .or .u64 ((half0 s k : Nat) : Int) (IntKind.u64.wrap (IntKind.u64.wrap (s[k].toNat : Int) * 2 ^ (56 - 8 * k))) = ((half0 s (k + 1) : Nat) : Int) := by
  have h := or_step (num s 0 k) s[k].toNat (7 - k) (by have := num_lt s 0 k; rwa [show 7 - (7 - k) = k by omega]) (by omega) (UInt8.toNat_lt _)
  unfold half0
  rw [Nat.min_eq_left (show k ≤ 8 by omega), Nat.min_eq_left (show k + 1 ≤ 8 by omega)]
  simp only [num, Nat.zero_add]
  rw [byteAt_in s k hlt]
  rw [show 7 - k + 1 = 8 - k by omega, show 8 * (7 - k) = 56 - 8 * k by omega] at h
  rw [show 8 - (k + 1) = 7 - k by omega]
  exact h
theorem half1_step (s : ByteArray) (k : Nat) (h8 : ¬ k < 8) (h16 : k < 16) (hlt : k < s.size) :
    bits .or .u64 ((half1 s k : Nat) : Int) (IntKind.u64.wrap (IntKind.u64.wrap (s[k].toNat : Int) * 2 ^ (56 - 8 * (k - 8)))) = ((half1 s (k + 1) : Nat) : Int) := by
  have h := or_step (num s 8 (k - 8)) s[k].toNat (15 - k) (by have := num_lt s 8 (k - 8); rwa [show 7 - (15 - k) = k - 8 by omega]) (by omega) (UInt8.toNat_lt _)
  unfold half1
  rw [show k + 1 - 8 = k - 8 + 1 by omega]
  simp only [num]
  rw [show 8 + (k - 8) = k by omega, byteAt_in s k hlt]
  rw [show 15 - k + 1 = 8 - (k - 8) by omega, show 8 * (15 - k) = 56 - 8 * (k - 8) by omega] at h
  rw [show 8 - (k - 8 + 1) = 15 - k by omega]
  exact h
theorem half_same (s : ByteArray) (k : Nat) : (k < 8 → half1 s (k + 1) = half1 s k) ∧ (¬ k < 8 → half0 s (k + 1) = half0 s k) := by
  unfold half0 half1
  constructor
  · intro h; rw [show k + 1 - 8 = k - 8 by omega]
  · intro h; rw [Nat.min_eq_right (by omega), Nat.min_eq_right (by omega)]

set_option maxRecDepth 100000 in
set_option maxHeartbeats 400000 in
theorem keys_Of (s : ByteArray) (w : World) (_hs : s.size ≤ 1048576) :
    Calls Try.prog 52 #[.string s] w (Gives w (.agg #[.int .u64 (posHi s), .int .u64 (posLo s)])) := by
  go_enter Try.func52, Try.ntmps52
  go_wp2
  go_loopw [4] (fun i wr => ∃ k n : Nat, k ≤ 16 ∧ i = .int .i64 k ∧ wr = ((w.alloc (.cells #[.int .u64 0, .int .u64 0] 58)).alloc (.cells #[.int .u64 (half0 s k : Nat), .int .u64 (half1 s k : Nat)] 112)).drewN n) (fun i _ => 16 - (intOf i).toNat)
  case atStart => exact ⟨0, 0, by omega, rfl, by rw [half0_zero, half1_zero]; rfl⟩
  case round =>
    obtain ⟨k, n, hk, rfl, rfl⟩ := hrel
    by_cases hlt : k < s.size
    · by_cases h16 : k < 16
      · by_cases h8 : k < 8
        · have e1 : (k : Int) / 8 = 0 := by omega
          have e2 : (k : Int) % 8 = k := by omega
          go_wp2
          go_region
          go_wp2
          go_roundw
          case rel => exact ⟨k + 1, n + 1, by omega, by go_num, by rw [← half0_step s k h8 hlt, (half_same s k).1 h8]⟩
          case measure => simp [intOf]; omega
        · have e1 : (k : Int) / 8 = 1 := by omega
          obtain ⟨j, hj⟩ : ∃ j, k = j + 8 := ⟨k - 8, by omega⟩
          have e2 : (k : Int) % 8 = ((k - 8 : Nat) : Int) := by omega
          have b2 : k - 8 < 8 := by omega
          clear hj
          go_wp2
          go_region
          go_wp2
          go_roundw
          case rel => exact ⟨k + 1, n + 1, by omega, by go_num, by rw [← half1_step s k h8 h16 hlt, (half_same s k).2 h8]⟩
          case measure => simp [intOf]; omega
      · obtain ⟨e1, e2⟩ := half_end s k hk (.inr (by omega))
        rw [e1, e2]
        clear e1 e2
        go_wp2
        exact bodyPost_ret (v := .agg #[.int .u64 (posHi s), .int .u64 (posLo s)]) (by simp [results, Try.results52, go_sem]) rfl (.mk rfl (by exact (((Below.refl _ _).alloc (Nat.le_refl _) _).alloc (by simp) _).trans ⟨rfl, rfl, rfl, Nat.le_refl _, fun _ _ => rfl⟩))
    · obtain ⟨e1, e2⟩ := half_end s k hk (.inl (by omega))
      rw [e1, e2]
      clear e1 e2
      go_wp2
      exact bodyPost_ret (v := .agg #[.int .u64 (posHi s), .int .u64 (posLo s)]) (by simp [results, Try.results52, go_sem]) rfl (.mk rfl (by exact (((Below.refl _ _).alloc (Nat.le_refl _) _).alloc (by simp) _).trans ⟨rfl, rfl, rfl, Nat.le_refl _, fun _ _ => rfl⟩))

theorem wrap_small {n : Nat} (h : n < 9223372036854775808) : IntKind.i64.wrap (n : Int) = n := IntWalk.i64_in _ (by omega)
theorem keys_Bucket (hi lo : Nat) (w : World) (h : hi < 18446744073709551616) :
    Calls Try.prog 51 #[.agg #[.int .u64 hi, .int .u64 lo]] w (Gives w (.int .i64 (hi / 288230376151711744 : Nat))) := by
  go_enter Try.func51, Try.ntmps51
  go_wp2
  go_ret
  exact .mk (by simp) ((Below.refl _ _).alloc (Nat.le_refl _) _)
theorem ref01_Bucket (hi lo : Nat) (w : World) (h : hi < 18446744073709551616) :
    Calls Try.prog 18 #[.agg #[.int .u64 hi, .int .u64 lo]] w (Gives w (.int .i64 (hi / 288230376151711744 : Nat))) := by
  go_enter Try.func18, Try.ntmps18
  go_wp2
  go_ret
  exact .mk (by simp) ((Below.refl _ _).alloc (Nat.le_refl _) _)
theorem keys_KeyBucket (s : ByteArray) (w : World) (hs : s.size ≤ 1048576) : Calls Try.prog 42 #[.string s] w (Gives w (.int .i64 (bucketOf s))) := by
  go_enter Try.func42, Try.ntmps42
  go_wp2_with fail
  refine (keys_Of s _ hs).mono ?_
  rintro e w1 ⟨rfl, y, rfl⟩
  go_wp2_with fail
  refine (keys_Bucket (posHi s) (posLo s) _ (posHi_lt s)).mono ?_
  rintro e w1 ⟨rfl, z, rfl⟩
  go_wp2_with fail
  go_ret
  exact .mk rfl (below_of_ext below_ext (by simp [size_ext]))

theorem num_lt7 (s : ByteArray) (a : Nat) {k : Nat} (h8 : k < 8) : num s a (min k 8) < 72057594037927936 := by
  rw [Nat.min_eq_left (by omega)]
  have h1 := num_lt s a k
  have h2 : 256 ^ k ≤ 256 ^ 7 := Nat.pow_le_pow_right (by omega) (by omega)
  omega
theorem num_lt7' (s : ByteArray) {k : Nat} (h8 : ¬ k < 8) (h16 : k < 16) : num s 8 (k - 8) < 72057594037927936 := by
  have h1 := num_lt s 8 (k - 8)
  have h2 : 256 ^ (k - 8) ≤ 256 ^ 7 := Nat.pow_le_pow_right (by omega) (by omega)
  omega
theorem ref_step (m : Nat) (c : UInt8) (hm : m < 72057594037927936) : IntKind.u64.wrap (IntKind.u64.wrap (256 * (m : Int)) + IntKind.u64.wrap (c.toNat : Int)) = ((m * 256 + c.toNat : Nat) : Int) := by
  have hc := UInt8.toNat_lt c
  rw [show (256 * (m : Int)) = ((256 * m : Nat) : Int) by simp, wrap_u64 _ (by omega), wrap_u64 _ (by omega), show ((256 * m : Nat) : Int) + (c.toNat : Int) = ((m * 256 + c.toNat : Nat) : Int) by omega, wrap_u64 _ (by omega)]
theorem ref_step0 (m : Nat) (hm : m < 72057594037927936) : IntKind.u64.wrap (IntKind.u64.wrap (256 * (m : Int))) = ((m * 256 + 0 : Nat) : Int) := by
  rw [show (256 * (m : Int)) = ((256 * m : Nat) : Int) by simp, wrap_u64 _ (by omega), wrap_u64 _ (by omega)]
  omega
theorem num_lo (s : ByteArray) {k c : Nat} (h8 : k < 8) (hc : byteAt s k = c) : num s 0 (min k 8) * 256 + c = num s 0 (min (k + 1) 8) := by
  rw [Nat.min_eq_left (by omega), Nat.min_eq_left (by omega)]
  simp only [num, Nat.zero_add, hc]
theorem num_hi (s : ByteArray) {k c : Nat} (h8 : ¬ k < 8) (hc : byteAt s k = c) : num s 8 (k - 8) * 256 + c = num s 8 (k + 1 - 8) := by
  rw [show k + 1 - 8 = k - 8 + 1 by omega]
  simp only [num]
  rw [show 8 + (k - 8) = k by omega, hc]
set_option maxRecDepth 100000 in
set_option maxHeartbeats 400000 in
theorem ref01_Of (s : ByteArray) (w : World) (hs : s.size ≤ 1048576) :
    Calls Try.prog 19 #[.string s] w (Gives w (.agg #[.int .u64 (posHi s), .int .u64 (posLo s)])) := by
  go_enter Try.func19, Try.ntmps19
  go_wp2
  go_loopw [4] (fun i wr => ∃ k : Nat, k ≤ 16 ∧ i = .int .i64 k ∧ wr = ((w.alloc (.cells #[.int .u64 0, .int .u64 0] 58)).alloc (.cells #[.int .u64 (num s 0 (min k 8) : Nat), .int .u64 (num s 8 (k - 8) : Nat)] 58))) (fun i _ => 16 - (intOf i).toNat)
  case atStart => exact ⟨0, by omega, rfl, by simp [num]⟩
  case round =>
    obtain ⟨k, hk, rfl, rfl⟩ := hrel
    have b1 := num_lt s 0 (min k 8)
    have b2 := num_lt s 8 (k - 8)
    by_cases h16 : k < 16
    · by_cases hlt : k < s.size
      · by_cases h8 : k < 8
        · go_wp2
          go_roundw
          case rel => exact ⟨k + 1, by omega, by go_num, by rw [ref_step _ _ (num_lt7 s 0 h8), num_lo s h8 (byteAt_in s k hlt), show k + 1 - 8 = k - 8 by omega]⟩
          case measure => simp [intOf]; omega
        · go_wp2
          go_roundw
          case rel => exact ⟨k + 1, by omega, by go_num, by rw [ref_step _ _ (num_lt7' s h8 h16), num_hi s h8 (byteAt_in s k hlt), Nat.min_eq_right (show 8 ≤ k by omega), Nat.min_eq_right (show 8 ≤ k + 1 by omega)]⟩
          case measure => simp [intOf]; omega
      · by_cases h8 : k < 8
        · go_wp2
          go_roundw
          case rel => exact ⟨k + 1, by omega, by go_num, by rw [ref_step0 _ (num_lt7 s 0 h8), num_lo s h8 (byteAt_out s k (by omega)), show k + 1 - 8 = k - 8 by omega]⟩
          case measure => simp [intOf]; omega
        · go_wp2
          go_roundw
          case rel => exact ⟨k + 1, by omega, by go_num, by rw [ref_step0 _ (num_lt7' s h8 h16), num_hi s h8 (byteAt_out s k (by omega)), Nat.min_eq_right (show 8 ≤ k by omega), Nat.min_eq_right (show 8 ≤ k + 1 by omega)]⟩
          case measure => simp [intOf]; omega
    · obtain rfl : k = 16 := by omega
      go_wp2
      exact bodyPost_ret (v := .agg #[.int .u64 (posHi s), .int .u64 (posLo s)]) (by simp [results, Try.results19, go_sem, posHi, posLo]) rfl (.mk rfl (((Below.refl _ _).alloc (Nat.le_refl _) _).alloc (by simp) _))
end Go.Proofs.Ytomcekjhehceoaa
