/- WALKS: votes as texts, as the program and as the document has them. -/
import Derived.Test.YtplliabmnhigbaaDecide
set_option linter.unusedVariables false
set_option linter.unusedSimpArgs false
namespace Go.Proofs.Ytplliabmnhigbaa
open Go.RowKit Go.Tk
def textOf (v : Int) : ByteArray := if v = 1 then ⟨#[112]⟩ else if v = 2 then ⟨#[97]⟩ else ⟨#[]⟩
theorem votes_Text (v : Int) (w : World) : Calls Try.prog 65 #[.int .i64 v] w (Gives w (.string (textOf v))) := by
  by_cases h1 : v = 1
  · subst h1
    go_enter Try.func65, Try.ntmps65
    go_wp2
    go_ret
    exact .mk rfl (Below.refl _ _)
  by_cases h2 : v = 2
  · subst h2
    go_enter Try.func65, Try.ntmps65
    go_wp2
    go_ret
    exact .mk rfl (Below.refl _ _)
  have e1 : (v == 1) = false := by simp [h1]
  have e2 : (v == 2) = false := by simp [h2]
  have E : Hid (textOf v = ⟨#[]⟩) := Lib.hid (by simp [textOf, h1, h2])
  clear h1 h2
  go_enter Try.func65, Try.ntmps65
  go_wp2
  go_ret
  exact .mk (by rw [E.out]; rfl) (Below.refl _ _)
theorem ref18_Text (v : Int) (w : World) : Calls Try.prog 12 #[.int .i64 v] w (Gives w (.string (textOf v))) := by
  by_cases h1 : v = 1
  · subst h1
    go_enter Try.func12, Try.ntmps12
    go_wp2
    go_ret
    exact .mk rfl (Below.refl _ _)
  by_cases h2 : v = 2
  · subst h2
    go_enter Try.func12, Try.ntmps12
    go_wp2
    go_ret
    exact .mk rfl (Below.refl _ _)
  have e1 : (v == 1) = false := by simp [h1]
  have e2 : (v == 2) = false := by simp [h2]
  have E : Hid (textOf v = ⟨#[]⟩) := Lib.hid (by simp [textOf, h1, h2])
  clear h1 h2
  go_enter Try.func12, Try.ntmps12
  go_wp2
  go_ret
  exact .mk (by rw [E.out]; rfl) (Below.refl _ _)
def readOf (s : ByteArray) : Int := if s.toList = [112] then 1 else if s.toList = [97] then 2 else 0
theorem ref18_Read (s : ByteArray) (w : World) : Calls Try.prog 47 #[.string s] w (Gives w (.int .i64 (readOf s))) := by
  by_cases h1 : s.toList = [112]
  · have E : Hid (readOf s = 1) := Lib.hid (by simp [readOf, h1])
    have e1 : (s.toList == [112]) = true := by simp [h1]
    clear h1
    go_enter Try.func47, Try.ntmps47
    go_wp2
    go_ret
    exact .mk (by rw [E.out]; rfl) (Below.refl _ _)
  have e1 : (s.toList == [112]) = false := by simp [h1]
  by_cases h2 : s.toList = [97]
  · have E : Hid (readOf s = 2) := Lib.hid (by simp [readOf, h2])
    have e2 : (s.toList == [97]) = true := by simp [h2]
    clear h1 h2
    go_enter Try.func47, Try.ntmps47
    go_wp2
    go_ret
    exact .mk (by rw [E.out]; rfl) (Below.refl _ _)
  have e2 : (s.toList == [97]) = false := by simp [h2]
  have E : Hid (readOf s = 0) := Lib.hid (by simp [readOf, h1, h2])
  clear h1 h2
  go_enter Try.func47, Try.ntmps47
  go_wp2
  go_ret
  exact .mk (by rw [E.out]; rfl) (Below.refl _ _)
set_option maxHeartbeats 1000000 in
theorem votes_Read (s : ByteArray) (w : World) : Calls Try.prog 38 #[.string s] w (Gives w (.int .i64 (readOf s))) := by
  have i0 : ∀ (a b : Int) w, (Instr.index 149 (.agg #[.int .i64 a, .int .i64 b]) (.int .i64 0)).run Try.prog w = .ok (.int .i64 a) w := fun _ _ _ => by kernel_rfl
  have i1 : ∀ (a b : Int) w, (Instr.index 149 (.agg #[.int .i64 a, .int .i64 b]) (.int .i64 1)).run Try.prog w = .ok (.int .i64 b) w := fun _ _ _ => by kernel_rfl
  have t1 := Lib.hid (fun W => votes_Text 1 W)
  have t2 := Lib.hid (fun W => votes_Text 2 W)
  obtain ⟨b1, h1⟩ : ∃ b, b = ((textOf 1).toList == s.toList) := ⟨_, rfl⟩
  obtain ⟨b2, h2⟩ : ∃ b, b = ((textOf 2).toList == s.toList) := ⟨_, rfl⟩
  have x1 : (textOf 1).toList = [112] := by rw [ByteArray.toList_eq]; rfl
  have x2 : (textOf 2).toList = [97] := by rw [ByteArray.toList_eq]; rfl
  have E1 : Hid (b1 = true → readOf s = 1) := Lib.hid (by rw [h1, x1]; intro h; simp at h; simp [readOf, ← h])
  have E2 : Hid (b1 = false → b2 = true → readOf s = 2) := Lib.hid (by rw [h1, h2, x1, x2]; intro h h'; simp at h'; simp [readOf, ← h'])
  have E3 : Hid (b1 = false → b2 = false → readOf s = 0) := Lib.hid (by rw [h1, h2, x1, x2]; intro h h'; simp at h h'; simp [readOf, Ne.symm h, Ne.symm h'])
  have g1 := h1.symm
  have g2 := h2.symm
  clear h1 h2 x1 x2
  go_enter Try.func38, Try.ntmps38
  go_wp2
  go_loopw [6] (fun i wr => ∃ (k : Nat) (y : Ext), k ≤ 2 ∧ i = .int .i64 k ∧ wr = w.ext y ∧ (k = 0 ∨ b1 = false) ∧ (k ≤ 1 ∨ b2 = false)) (fun i _ => 2 - (intOf i).toNat)
  case atStart => exact ⟨0, _, by omega, rfl, ext_self, .inl rfl, .inl (by omega)⟩
  case round =>
    obtain ⟨k, y, hk, rfl, rfl, o1, o2⟩ := hrel
    have O1 := Lib.hid o1
    have O2 := Lib.hid o2
    clear o1 o2
    have hcase : k = 0 ∨ k = 1 ∨ k = 2 := by omega
    rcases hcase with rfl | rfl | rfl
    · cases b1
      · go_wp2_with (go_at_call 65; refine (t1.out _).mono ?_; rintro e w1 ⟨rfl, z, rfl⟩)
        go_roundw
        case rel => exact ⟨1, _, by omega, rfl, ext_ext, .inr (by simp), .inl (by omega)⟩
        case measure => simp [intOf]
      · go_wp2_with (go_at_call 65; refine (t1.out _).mono ?_; rintro e w1 ⟨rfl, z, rfl⟩)
        go_ret
        exact .mk (by rw [E1.out (by simp)]; rfl) (by simp only [ext_ext]; exact below_ext)
    · cases b2
      · go_wp2_with (go_at_call 65; refine (t2.out _).mono ?_; rintro e w1 ⟨rfl, z, rfl⟩)
        go_roundw
        case rel => exact ⟨2, _, by omega, rfl, ext_ext, O1.out.imp (by omega) (fun h => h), .inr (by simp)⟩
        case measure => simp [intOf]
      · go_wp2_with (go_at_call 65; refine (t2.out _).mono ?_; rintro e w1 ⟨rfl, z, rfl⟩)
        go_ret
        exact .mk (by rw [E2.out (O1.out.resolve_left (by omega)) (by simp)]; rfl) (by simp only [ext_ext]; exact below_ext)
    · go_wp2
      go_ret
      exact .mk (by rw [E3.out (O1.out.resolve_left (by omega)) (O2.out.resolve_left (by omega))]; rfl) below_ext
theorem read_text {v : Int} (h : v = 1 ∨ v = 2) : readOf (textOf v) = v := by rcases h with rfl | rfl <;> simp [readOf, textOf, ByteArray.toList_eq]
end Go.Proofs.Ytplliabmnhigbaa
