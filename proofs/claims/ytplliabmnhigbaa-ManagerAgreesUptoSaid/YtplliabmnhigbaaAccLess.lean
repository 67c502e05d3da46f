/- WALKS: which ballot is below another (acceptor.Less, through cmp.Compare and cmp.Or; the document's Less): they come to the plain function. -/
import Derived.Test.YtplliabmnhigbaaRows
import Derived.Test.YtplliabmnhigbaaHeap
import Derived.StillTailTactics
import Derived.Deep.DeepCutAuto
import Derived.Outline
set_option linter.unusedVariables false
set_option linter.unusedSimpArgs false
namespace Go.Proofs.Ytplliabmnhigbaa
open Go.RowKit Go.Tk

structure Ballot where
  r : Int
  n : Int
deriving DecidableEq
def Ballot.val (b : Ballot) : Value := .agg #[.int .u32 b.r, .int .u8 b.n]
def less (a b : Ballot) : Bool := decide (a.r < b.r ∨ a.r = b.r ∧ a.n < b.n)
def cmpI (a b : Int) : Int := if a < b then -1 else if b < a then 1 else 0

set_option maxRecDepth 100000 in
theorem nan32 (a : Int) (w : World) : Calls Try.prog 78 #[.int .u32 a] w (fun e w' => e = .returned (.bool false) ∧ w' = w) := by
  go_enter Try.func78, Try.ntmps78
  go_wp2
  go_ret
  exact ⟨by simp, rfl⟩
set_option maxRecDepth 100000 in
theorem nan8 (a : Int) (w : World) : Calls Try.prog 79 #[.int .u8 a] w (fun e w' => e = .returned (.bool false) ∧ w' = w) := by
  go_enter Try.func79, Try.ntmps79
  go_wp2
  go_ret
  exact ⟨by simp, rfl⟩
set_option maxRecDepth 100000 in
theorem cmp32 (a b : Int) (w : World) : Calls Try.prog 71 #[.int .u32 a, .int .u32 b] w (fun e w' => e = .returned (.int .i64 (cmpI a b)) ∧ w' = w) := by
  unfold cmpI
  go_enter Try.func71, Try.ntmps71
  by_cases h : a < b
  · go_wp2_with (go_at_call 78; refine (nan32 _ _).mono ?_; rintro e w' ⟨rfl, rfl⟩)
    go_ret
    exact ⟨by simp [h], rfl⟩
  · by_cases h' : b < a
    · go_wp2_with (go_at_call 78; refine (nan32 _ _).mono ?_; rintro e w' ⟨rfl, rfl⟩)
      go_ret
      exact ⟨by simp [h, h'], rfl⟩
    · go_wp2_with (go_at_call 78; refine (nan32 _ _).mono ?_; rintro e w' ⟨rfl, rfl⟩)
      go_ret
      exact ⟨by simp [h, h'], rfl⟩
set_option maxRecDepth 100000 in
theorem cmp8 (a b : Int) (w : World) : Calls Try.prog 72 #[.int .u8 a, .int .u8 b] w (fun e w' => e = .returned (.int .i64 (cmpI a b)) ∧ w' = w) := by
  unfold cmpI
  go_enter Try.func72, Try.ntmps72
  by_cases h : a < b
  · go_wp2_with (go_at_call 79; refine (nan8 _ _).mono ?_; rintro e w' ⟨rfl, rfl⟩)
    go_ret
    exact ⟨by simp [h], rfl⟩
  · by_cases h' : b < a
    · go_wp2_with (go_at_call 79; refine (nan8 _ _).mono ?_; rintro e w' ⟨rfl, rfl⟩)
      go_ret
      exact ⟨by simp [h, h'], rfl⟩
    · go_wp2_with (go_at_call 79; refine (nan8 _ _).mono ?_; rintro e w' ⟨rfl, rfl⟩)
      go_ret
      exact ⟨by simp [h, h'], rfl⟩
set_option maxRecDepth 100000 in
theorem cmpOr (x y : Int) (g : Nat) (w : World) (h0 : w.cell? ⟨g, 0, none⟩ = some (.int .i64 x)) (h1 : w.cell? ⟨g, 1, none⟩ = some (.int .i64 y)) :
    Calls Try.prog 70 #[.slice (some ⟨g, 0, none⟩) 2 2] w (fun e w' => e = .returned (.int .i64 (if x ≠ 0 then x else y)) ∧ w' = w) := by
  go_enter Try.func70, Try.ntmps70
  go_wp2
  go_loop [8] (fun s8 => ∃ i : Nat, i ≤ 2 ∧ s8 = .int .i64 i ∧ (1 ≤ i → x = 0) ∧ (2 ≤ i → y = 0)) (fun s8 => 2 - (intOf s8).toNat)
  case atStart => exact ⟨0, by omega, rfl, by omega, by omega⟩
  case round =>
    obtain ⟨i, hi, rfl, hx, hy⟩ := hrel
    have hcase : i = 0 ∨ i = 1 ∨ i = 2 := by omega
    rcases hcase with rfl | rfl | rfl
    · by_cases e : x = 0
      · subst e
        go_wp2
        go_round
        case rel => exact ⟨1, by omega, rfl, by simp, by omega⟩
        case measure => simp [intOf]
      · have t1 : (x != 0) = true := by simp [e]
        go_wp2
        go_ret
        exact ⟨by simp [e], rfl⟩
    · obtain rfl := hx (by omega)
      by_cases e : y = 0
      · subst e
        go_wp2
        go_round
        case rel => exact ⟨2, by omega, rfl, by simp, by simp⟩
        case measure => simp [intOf]
      · have t1 : (y != 0) = true := by simp [e]
        go_wp2
        go_ret
        exact ⟨by simp, rfl⟩
    · obtain rfl := hx (by omega)
      obtain rfl := hy (by omega)
      go_wp2
      go_ret
      exact ⟨by simp, rfl⟩

set_option maxRecDepth 100000 in
set_option maxHeartbeats 1000000 in
theorem acc_Less (a b : Ballot) (w : World) : Calls Try.prog 55 #[a.val, b.val] w (Gives w (.bool (less a b))) := by
  obtain ⟨r, hr⟩ : ∃ r, r = less a b := ⟨_, rfl⟩
  rw [← hr]
  obtain ⟨ar, an⟩ := a
  obtain ⟨br, bn⟩ := b
  unfold Ballot.val
  simp only
  have HR := Lib.hid hr
  clear hr
  have hfin : decide ((if cmpI ar br ≠ 0 then cmpI ar br else cmpI an bn) < 0) = r := by
    rw [HR.out]
    unfold less cmpI
    simp only
    congr 1
    apply propext
    split <;> (try split) <;> (try split) <;> (try split) <;> (try split) <;> omega
  have HF := Lib.hid hfin
  clear hfin
  obtain ⟨q1, q2, q3, q4, q5, q6⟩ := roomy (b := w.heap.size) (s := w.heap.size + 1) (by omega)
  go_enter Try.func55, Try.ntmps55
  go_upto_region 1 with fail
  refine wp_region_still_tail 10 (by kernel_rfl) (by kernel_rfl) ?_
  simp only [List.take_succ_cons, List.take_zero, List.drop_succ_cons, List.drop_zero]
  change wpStill _ _ (((w.alloc (.cells #[.int .u32 ar, .int .u8 an] 47)).alloc (.cells #[.int .u32 br, .int .u8 bn] 47)).drew) (fun a' => wpList _ _ _ _ a' (((w.alloc (.cells #[.int .u32 ar, .int .u8 an] 47)).alloc (.cells #[.int .u32 br, .int .u8 bn] 47)).drew)) _ _
  repeat still_step
  still_call (cmp32 _ _ _)
  repeat still_step
  still_call (cmp8 _ _ _)
  refine wpStill_nil ?_
  go_wp2_with fail
  have hb : ((((w.alloc (.cells #[.int .u32 ar, .int .u8 an] 47)).alloc (.cells #[.int .u32 br, .int .u8 bn] 47)).alloc (.cells #[.int .i64 (cmpI ar br), .int .i64 (cmpI an bn)] 3)).drew).heap[w.heap.size + 1 + 1]? = some (.cells #[.int .i64 (cmpI ar br), .int .i64 (cmpI an bn)] 3) := hp_new (w := (w.alloc (.cells #[.int .u32 ar, .int .u8 an] 47)).alloc (.cells #[.int .u32 br, .int .u8 bn] 47)) (by simp)
  refine (cmpOr (cmpI ar br) (cmpI an bn) _ _ ((cell_of_heap hb).trans rfl) ((cell_of_heap hb).trans rfl)).mono ?_
  generalize (if cmpI ar br ≠ 0 then cmpI ar br else cmpI an bn) = v at *
  rintro e w' ⟨rfl, rfl⟩
  go_wp2
  go_ret
  exact .mk (vbool (by rw [← HF.out])) ((((Below.refl _ _).alloc (Nat.le_refl _) _).alloc (by (try simp only [World.size_alloc, size_ext, World.size_setCell]); omega) _).alloc (by (try simp only [World.size_alloc, size_ext, World.size_setCell]); omega) _).drew
set_option maxRecDepth 100000 in
set_option maxHeartbeats 1000000 in
theorem ref10_Less (a b : Ballot) (w : World) : Calls Try.prog 67 #[a.val, b.val] w (Gives w (.bool (less a b))) := by
  obtain ⟨r, hr⟩ : ∃ r, r = less a b := ⟨_, rfl⟩
  rw [← hr]
  obtain ⟨ar, an⟩ := a
  obtain ⟨br, bn⟩ := b
  unfold Ballot.val
  simp only
  unfold less at hr
  simp only at hr
  have HR := Lib.hid hr
  clear hr
  obtain ⟨q1, q2, q3, q4, q5, q6⟩ := roomy (b := w.heap.size) (s := w.heap.size + 1) (by omega)
  go_enter Try.func67, Try.ntmps67
  by_cases h1 : ar < br
  · go_wp2
    go_ret
    exact .mk (vbool (by rw [HR.out]; simp [h1])) (((Below.refl _ _).alloc (Nat.le_refl _) _).alloc (by (try simp only [World.size_alloc, size_ext, World.size_setCell]); omega) _)
  · by_cases h2 : ar = br
    · subst h2
      have t1 : (ar == ar) = true := by simp
      go_wp2
      go_ret
      exact .mk (vbool (by rw [HR.out]; simp)) (((Below.refl _ _).alloc (Nat.le_refl _) _).alloc (by (try simp only [World.size_alloc, size_ext, World.size_setCell]); omega) _)
    · have t1 : (ar == br) = false := by simp [h2]
      go_wp2
      go_ret
      exact .mk (vbool (by rw [HR.out]; simp [h1, h2])) (((Below.refl _ _).alloc (Nat.le_refl _) _).alloc (by (try simp only [World.size_alloc, size_ext, World.size_setCell]); omega) _)
end Go.Proofs.Ytplliabmnhigbaa
