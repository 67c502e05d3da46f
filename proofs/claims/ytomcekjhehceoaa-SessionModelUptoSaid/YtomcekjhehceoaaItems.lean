/- WALKS: items, as the store and as the document has them: both come to the plain function. -/
import Derived.Test.YtomcekjhehceoaaEnts
set_option linter.unusedVariables false
set_option linter.unusedSimpArgs false
namespace Go.Proofs.Ytomcekjhehceoaa
open Go.RowKit Go.Tk

structure ItemR where
  bucket : Int
  ver : Int
  write : Bool
  data : Value
  ents : List (ByteArray × ByteArray)
  inc : Nat → Int
def ItemR.cells (x : ItemR) : List Value := [.int .i64 x.bucket, .int .u32 x.ver, .bool x.write, x.data, .int .u32 (x.inc 0), .int .u32 (x.inc 1), .int .u32 (x.inc 2), .int .u32 (x.inc 3)]
def ItemR.val (x : ItemR) : Value := .agg #[.int .i64 x.bucket, .int .u32 x.ver, .bool x.write, x.data, .int .u32 (x.inc 0), .int .u32 (x.inc 1), .int .u32 (x.inc 2), .int .u32 (x.inc 3)]
def zeros (inc : Nat → Int) : Nat → Nat
  | 0 => 0
  | k + 1 => zeros inc k + if inc k = 0 then 1 else 0
theorem zeros_le (inc : Nat → Int) : ∀ k, zeros inc k ≤ k
  | 0 => Nat.le_refl _
  | k + 1 => by have := zeros_le inc k; simp only [zeros]; split <;> omega
def ItemR.right (x : ItemR) : Bool :=
  decide (0 ≤ x.bucket ∧ x.bucket < 64 ∧ x.ver < 2147483647 ∧ zeros x.inc 4 ≤ 1) && (if x.write then entsOk x.bucket x.ents else decide (x.ents.length = 0))

set_option maxRecDepth 100000 in
set_option maxHeartbeats 1000000 in
theorem store_Right (x : ItemR) (w : World) (he : Ents w x.data x.ents) : Calls Try.prog 27 #[x.val] w (Gives w (.bool x.right)) := by
  obtain ⟨r, hr⟩ : ∃ r, r = x.right := ⟨_, rfl⟩
  rw [← hr]
  obtain ⟨bk, ver, wr, data, l, inc⟩ := x
  simp only at he
  unfold ItemR.val
  unfold ItemR.right at hr
  simp only at hr ⊢
  have C := Lib.hid (fun (W : World) (h : Ents W data l) => store_entries bk data l W h)
  have HE := Lib.hid he
  have HR := Lib.hid hr
  clear hr
  obtain ⟨_, _, A, c, rfl, _⟩ := he
  have i0 : ∀ (a b c d : Int) w, (Instr.index 34 (.agg #[.int .u32 a, .int .u32 b, .int .u32 c, .int .u32 d]) (.int .i64 0)).run Try.prog w = .ok (.int .u32 a) w := fun _ _ _ _ _ => by kernel_rfl
  have i1 : ∀ (a b c d : Int) w, (Instr.index 34 (.agg #[.int .u32 a, .int .u32 b, .int .u32 c, .int .u32 d]) (.int .i64 1)).run Try.prog w = .ok (.int .u32 b) w := fun _ _ _ _ _ => by kernel_rfl
  have i2 : ∀ (a b c d : Int) w, (Instr.index 34 (.agg #[.int .u32 a, .int .u32 b, .int .u32 c, .int .u32 d]) (.int .i64 2)).run Try.prog w = .ok (.int .u32 c) w := fun _ _ _ _ _ => by kernel_rfl
  have i3 : ∀ (a b c d : Int) w, (Instr.index 34 (.agg #[.int .u32 a, .int .u32 b, .int .u32 c, .int .u32 d]) (.int .i64 3)).run Try.prog w = .ok (.int .u32 d) w := fun _ _ _ _ _ => by kernel_rfl
  go_enter Try.func27, Try.ntmps27
  go_wp2
  go_loop [3, 8] (fun n i => ∃ k : Nat, k ≤ 4 ∧ i = .int .i64 k ∧ n = .int .i64 (zeros inc k : Nat)) (fun _ i => 4 - (intOf i).toNat)
  case atStart => exact ⟨0, by omega, rfl, rfl⟩
  case round =>
    obtain ⟨k, hk, rfl, rfl⟩ := hrel
    have hzk := zeros_le inc k
    by_cases hlt : k < 4
    · have hcase : k = 0 ∨ k = 1 ∨ k = 2 ∨ k = 3 := by omega
      rcases hcase with rfl | rfl | rfl | rfl
      · by_cases hi : inc 0 = 0
        · have hi' : (inc 0 == 0) = true := by simp [hi]
          have hs : Hid (zeros inc 1 = zeros inc 0 + 1) := Lib.hid (by simp [zeros, hi])
          clear hi
          go_wp2
          go_round
          case rel => exact ⟨1, by omega, rfl, by rw [hs.out]; go_num⟩
          case measure => simp [intOf]
        · have hi' : (inc 0 == 0) = false := by simp [hi]
          have hs : Hid (zeros inc 1 = zeros inc 0) := Lib.hid (by simp [zeros, hi])
          clear hi
          go_wp2
          go_round
          case rel => exact ⟨1, by omega, rfl, by rw [hs.out]⟩
          case measure => simp [intOf]
      · by_cases hi : inc 1 = 0
        · have hi' : (inc 1 == 0) = true := by simp [hi]
          have hs : Hid (zeros inc 2 = zeros inc 1 + 1) := Lib.hid (by simp [zeros, hi])
          clear hi
          go_wp2
          go_round
          case rel => exact ⟨2, by omega, rfl, by rw [hs.out]; go_num⟩
          case measure => simp [intOf]
        · have hi' : (inc 1 == 0) = false := by simp [hi]
          have hs : Hid (zeros inc 2 = zeros inc 1) := Lib.hid (by simp [zeros, hi])
          clear hi
          go_wp2
          go_round
          case rel => exact ⟨2, by omega, rfl, by rw [hs.out]⟩
          case measure => simp [intOf]
      · by_cases hi : inc 2 = 0
        · have hi' : (inc 2 == 0) = true := by simp [hi]
          have hs : Hid (zeros inc 3 = zeros inc 2 + 1) := Lib.hid (by simp [zeros, hi])
          clear hi
          go_wp2
          go_round
          case rel => exact ⟨3, by omega, rfl, by rw [hs.out]; go_num⟩
          case measure => simp [intOf]
        · have hi' : (inc 2 == 0) = false := by simp [hi]
          have hs : Hid (zeros inc 3 = zeros inc 2) := Lib.hid (by simp [zeros, hi])
          clear hi
          go_wp2
          go_round
          case rel => exact ⟨3, by omega, rfl, by rw [hs.out]⟩
          case measure => simp [intOf]
      · by_cases hi : inc 3 = 0
        · have hi' : (inc 3 == 0) = true := by simp [hi]
          have hs : Hid (zeros inc 4 = zeros inc 3 + 1) := Lib.hid (by simp [zeros, hi])
          clear hi
          go_wp2
          go_round
          case rel => exact ⟨4, by omega, rfl, by rw [hs.out]; go_num⟩
          case measure => simp [intOf]
        · have hi' : (inc 3 == 0) = false := by simp [hi]
          have hs : Hid (zeros inc 4 = zeros inc 3) := Lib.hid (by simp [zeros, hi])
          clear hi
          go_wp2
          go_round
          case rel => exact ⟨4, by omega, rfl, by rw [hs.out]⟩
          case measure => simp [intOf]
    · obtain rfl : k = 4 := by omega
      generalize zeros inc 4 = z at *
      cases wr
      · go_wp2
        all_goals
          go_ret
          exact .mk (vbool (by rw [HR.out]; simp; omega)) ((Below.refl _ _).alloc (Nat.le_refl _) _)
      · go_wp2_with (go_at_call 40; refine (C.out _ (HE.out.alloc _)).mono ?_; rintro e w1 ⟨rfl, y, rfl⟩)
        all_goals
          go_ret
          first
            | exact .mk (vbool (by rw [HR.out]; simp; omega)) ((Below.refl _ _).alloc (Nat.le_refl _) _)
            | exact .mk (vbool (by rw [HR.out]; first | (simp; done) | (simp; omega))) (below_of_ext ((Below.refl _ _).alloc (Nat.le_refl _) _) (by simp))

set_option maxRecDepth 100000 in
set_option maxHeartbeats 1000000 in
theorem ref15_Right (x : ItemR) (w : World) (he : Ents w x.data x.ents) : Calls Try.prog 36 #[x.val] w (Gives w (.bool x.right)) := by
  obtain ⟨r, hr⟩ : ∃ r, r = x.right := ⟨_, rfl⟩
  rw [← hr]
  obtain ⟨bk, ver, wr, data, l, inc⟩ := x
  simp only at he
  unfold ItemR.val
  unfold ItemR.right at hr
  simp only at hr ⊢
  have C := Lib.hid (fun (W : World) (h : Ents W data l) => ref15_Entries bk data l W h)
  have HE := Lib.hid he
  obtain ⟨_, _, A, c, rfl, _⟩ := he
  obtain ⟨en, hen⟩ : ∃ en, en = entsOk bk l := ⟨_, rfl⟩
  rw [← hen] at hr C
  have HR := Lib.hid hr
  clear hr hen
  go_enter Try.func36, Try.ntmps36
  go_wp2
  go_loop [3, 4] (fun n i => ∃ k : Nat, k ≤ 4 ∧ i = .int .i64 k ∧ n = .int .i64 (k - zeros inc k : Nat)) (fun _ i => 4 - (intOf i).toNat)
  case atStart => exact ⟨0, by omega, rfl, rfl⟩
  case round =>
    obtain ⟨k, hk, rfl, rfl⟩ := hrel
    have hzk := zeros_le inc k
    by_cases hlt : k < 4
    · have hcase : k = 0 ∨ k = 1 ∨ k = 2 ∨ k = 3 := by omega
      rcases hcase with rfl | rfl | rfl | rfl
      · by_cases hi : inc 0 = 0
        · have hi' : (inc 0 != 0) = false := by simp [hi]
          have hs : Hid (zeros inc 1 = zeros inc 0 + 1) := Lib.hid (by simp [zeros, hi])
          clear hi
          go_wp2
          go_round
          case rel => exact ⟨1, by omega, rfl, by rw [hs.out]; go_num⟩
          case measure => simp [intOf]
        · have hi' : (inc 0 != 0) = true := by simp [hi]
          have hs : Hid (zeros inc 1 = zeros inc 0) := Lib.hid (by simp [zeros, hi])
          clear hi
          go_wp2
          go_round
          case rel => exact ⟨1, by omega, rfl, by rw [hs.out]; go_num⟩
          case measure => simp [intOf]
      · by_cases hi : inc 1 = 0
        · have hi' : (inc 1 != 0) = false := by simp [hi]
          have hs : Hid (zeros inc 2 = zeros inc 1 + 1) := Lib.hid (by simp [zeros, hi])
          clear hi
          go_wp2
          go_round
          case rel => exact ⟨2, by omega, rfl, by rw [hs.out]; go_num⟩
          case measure => simp [intOf]
        · have hi' : (inc 1 != 0) = true := by simp [hi]
          have hs : Hid (zeros inc 2 = zeros inc 1) := Lib.hid (by simp [zeros, hi])
          clear hi
          go_wp2
          go_round
          case rel => exact ⟨2, by omega, rfl, by rw [hs.out]; go_num⟩
          case measure => simp [intOf]
      · by_cases hi : inc 2 = 0
        · have hi' : (inc 2 != 0) = false := by simp [hi]
          have hs : Hid (zeros inc 3 = zeros inc 2 + 1) := Lib.hid (by simp [zeros, hi])
          clear hi
          go_wp2
          go_round
          case rel => exact ⟨3, by omega, rfl, by rw [hs.out]; go_num⟩
          case measure => simp [intOf]
        · have hi' : (inc 2 != 0) = true := by simp [hi]
          have hs : Hid (zeros inc 3 = zeros inc 2) := Lib.hid (by simp [zeros, hi])
          clear hi
          go_wp2
          go_round
          case rel => exact ⟨3, by omega, rfl, by rw [hs.out]; go_num⟩
          case measure => simp [intOf]
      · by_cases hi : inc 3 = 0
        · have hi' : (inc 3 != 0) = false := by simp [hi]
          have hs : Hid (zeros inc 4 = zeros inc 3 + 1) := Lib.hid (by simp [zeros, hi])
          clear hi
          go_wp2
          go_round
          case rel => exact ⟨4, by omega, rfl, by rw [hs.out]; go_num⟩
          case measure => simp [intOf]
        · have hi' : (inc 3 != 0) = true := by simp [hi]
          have hs : Hid (zeros inc 4 = zeros inc 3) := Lib.hid (by simp [zeros, hi])
          clear hi
          go_wp2
          go_round
          case rel => exact ⟨4, by omega, rfl, by rw [hs.out]; go_num⟩
          case measure => simp [intOf]
    · obtain rfl : k = 4 := by omega
      generalize zeros inc 4 = z at *
      go_wp2_with fail
      refine (C.out _ (HE.out.alloc _)).mono ?_
      rintro e w1 ⟨rfl, y, rfl⟩
      cases wr <;> cases en
      all_goals
        go_wp2
        all_goals
          go_ret
          exact .mk (vbool (by rw [HR.out]; first | (simp; done) | (simp; omega))) (below_of_ext ((Below.refl _ _).alloc (Nat.le_refl _) _) (by simp))
end Go.Proofs.Ytomcekjhehceoaa
