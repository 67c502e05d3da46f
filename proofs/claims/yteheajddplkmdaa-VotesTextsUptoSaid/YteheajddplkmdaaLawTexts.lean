/- PROVED: votes are told as texts and read again as the document says, for any text and any vote (VotesTexts): for arguments of bulk at most 1048576, the law returns true, and each argument reads behind the call as it read before. -/
import Derived.Test.YteheajddplkmdaaFrame
import Derived.Test.YteheajddplkmdaaAlive
set_option linter.unusedVariables false
set_option linter.unusedSimpArgs false
namespace Go.Proofs.Yteheajddplkmdaa
open Go.RowKit Go.WideShapes Go.ChangeShapes Go.ChangeAt Go.Tk

def textOf (v : Int) : ByteArray := if v = 1 then ⟨#[112]⟩ else if v = 2 then ⟨#[97]⟩ else ⟨#[]⟩
theorem votes_Text (v : Int) (w : World) : Calls Try.prog 18 #[.int .i64 v] w (Gives w (.string (textOf v))) := by
  by_cases h1 : v = 1
  · subst h1
    go_enter Try.func18, Try.ntmps18
    go_wp2
    go_ret
    exact .mk rfl (Below.refl _ _)
  by_cases h2 : v = 2
  · subst h2
    go_enter Try.func18, Try.ntmps18
    go_wp2
    go_ret
    exact .mk rfl (Below.refl _ _)
  have e1 : (v == 1) = false := by simp [h1]
  have e2 : (v == 2) = false := by simp [h2]
  have E : Hid (textOf v = ⟨#[]⟩) := Lib.hid (by simp [textOf, h1, h2])
  clear h1 h2
  go_enter Try.func18, Try.ntmps18
  go_wp2
  go_ret
  exact .mk (by rw [E.out]; rfl) (Below.refl _ _)
theorem ref18_Text (v : Int) (w : World) : Calls Try.prog 19 #[.int .i64 v] w (Gives w (.string (textOf v))) := by
  by_cases h1 : v = 1
  · subst h1
    go_enter Try.func19, Try.ntmps19
    go_wp2
    go_ret
    exact .mk rfl (Below.refl _ _)
  by_cases h2 : v = 2
  · subst h2
    go_enter Try.func19, Try.ntmps19
    go_wp2
    go_ret
    exact .mk rfl (Below.refl _ _)
  have e1 : (v == 1) = false := by simp [h1]
  have e2 : (v == 2) = false := by simp [h2]
  have E : Hid (textOf v = ⟨#[]⟩) := Lib.hid (by simp [textOf, h1, h2])
  clear h1 h2
  go_enter Try.func19, Try.ntmps19
  go_wp2
  go_ret
  exact .mk (by rw [E.out]; rfl) (Below.refl _ _)
def readOf (s : ByteArray) : Int := if s.toList = [112] then 1 else if s.toList = [97] then 2 else 0
theorem ref18_Read (s : ByteArray) (w : World) : Calls Try.prog 20 #[.string s] w (Gives w (.int .i64 (readOf s))) := by
  by_cases h1 : s.toList = [112]
  · have E : Hid (readOf s = 1) := Lib.hid (by simp [readOf, h1])
    have e1 : (s.toList == [112]) = true := by simp [h1]
    clear h1
    go_enter Try.func20, Try.ntmps20
    go_wp2
    go_ret
    exact .mk (by rw [E.out]; rfl) (Below.refl _ _)
  have e1 : (s.toList == [112]) = false := by simp [h1]
  by_cases h2 : s.toList = [97]
  · have E : Hid (readOf s = 2) := Lib.hid (by simp [readOf, h2])
    have e2 : (s.toList == [97]) = true := by simp [h2]
    clear h1 h2
    go_enter Try.func20, Try.ntmps20
    go_wp2
    go_ret
    exact .mk (by rw [E.out]; rfl) (Below.refl _ _)
  have e2 : (s.toList == [97]) = false := by simp [h2]
  have E : Hid (readOf s = 0) := Lib.hid (by simp [readOf, h1, h2])
  clear h1 h2
  go_enter Try.func20, Try.ntmps20
  go_wp2
  go_ret
  exact .mk (by rw [E.out]; rfl) (Below.refl _ _)
set_option maxHeartbeats 1000000 in
theorem votes_Read (s : ByteArray) (w : World) : Calls Try.prog 17 #[.string s] w (Gives w (.int .i64 (readOf s))) := by
  have i0 : ∀ (a b : Int) w, (Instr.index 55 (.agg #[.int .i64 a, .int .i64 b]) (.int .i64 0)).run Try.prog w = .ok (.int .i64 a) w := fun _ _ _ => by kernel_rfl
  have i1 : ∀ (a b : Int) w, (Instr.index 55 (.agg #[.int .i64 a, .int .i64 b]) (.int .i64 1)).run Try.prog w = .ok (.int .i64 b) w := fun _ _ _ => by kernel_rfl
  have t1 := Lib.hid (fun W => votes_Text 1 W)
  have t2 := Lib.hid (fun W => votes_Text 2 W)
  obtain ⟨b1, h1⟩ : ∃ b, b = ((textOf 1).toList == s.toList) := ⟨_, rfl⟩
  obtain ⟨b2, h2⟩ : ∃ b, b = ((textOf 2).toList == s.toList) := ⟨_, rfl⟩
  have x1 : (textOf 1).toList = [112] := by rw [ByteArray.toList_eq]; rfl
  have x2 : (textOf 2).toList = [97] := by rw [ByteArray.toList_eq]; rfl
  have E1 : Hid (b1 = true → readOf s = 1) := Lib.hid (by rw [h1, x1]; intro h; simp at h; simp [readOf, ← h])
  have E2 : Hid (b1 = false → b2 = true → readOf s = 2) := Lib.hid (by rw [h1, h2, x1, x2]; intro h h'; simp at h'; simp [readOf, ← h'])
  have E3 : Hid (b1 = false → b2 = false → readOf s = 0) := Lib.hid (by rw [h1, h2, x1, x2]; intro h h'; simp at h h'; simp [readOf, Ne.symm h, Ne.symm h'])
  have g1 := h1.symm
  have g2 := h2.symm
  clear h1 h2 x1 x2
  go_enter Try.func17, Try.ntmps17
  go_wp2
  go_loopw [6] (fun i wr => ∃ (k : Nat) (y : Ext), k ≤ 2 ∧ i = .int .i64 k ∧ wr = w.ext y ∧ (k = 0 ∨ b1 = false) ∧ (k ≤ 1 ∨ b2 = false)) (fun i _ => 2 - (intOf i).toNat)
  case atStart => exact ⟨0, _, by omega, rfl, ext_self, .inl rfl, .inl (by omega)⟩
  case round =>
    obtain ⟨k, y, hk, rfl, rfl, o1, o2⟩ := hrel
    have O1 := Lib.hid o1
    have O2 := Lib.hid o2
    clear o1 o2
    have hcase : k = 0 ∨ k = 1 ∨ k = 2 := by omega
    rcases hcase with rfl | rfl | rfl
    · cases b1
      · go_wp2_with (go_at_call 18; refine (t1.out _).mono ?_; rintro e w1 ⟨rfl, z, rfl⟩)
        go_roundw
        case rel => exact ⟨1, _, by omega, rfl, ext_ext, .inr (by simp), .inl (by omega)⟩
        case measure => simp [intOf]
      · go_wp2_with (go_at_call 18; refine (t1.out _).mono ?_; rintro e w1 ⟨rfl, z, rfl⟩)
        go_ret
        exact .mk (by rw [E1.out (by simp)]; rfl) (by simp only [ext_ext]; exact below_ext)
    · cases b2
      · go_wp2_with (go_at_call 18; refine (t2.out _).mono ?_; rintro e w1 ⟨rfl, z, rfl⟩)
        go_roundw
        case rel => exact ⟨2, _, by omega, rfl, ext_ext, O1.out.imp (by omega) (fun h => h), .inr (by simp)⟩
        case measure => simp [intOf]
      · go_wp2_with (go_at_call 18; refine (t2.out _).mono ?_; rintro e w1 ⟨rfl, z, rfl⟩)
        go_ret
        exact .mk (by rw [E2.out (O1.out.resolve_left (by omega)) (by simp)]; rfl) (by simp only [ext_ext]; exact below_ext)
    · go_wp2
      go_ret
      exact .mk (by rw [E3.out (O1.out.resolve_left (by omega)) (O2.out.resolve_left (by omega))]; rfl) below_ext
theorem read_text {v : Int} (h : v = 1 ∨ v = 2) : readOf (textOf v) = v := by rcases h with rfl | rfl <;> simp [readOf, textOf, ByteArray.toList_eq]
set_option maxHeartbeats 1000000 in
theorem walkTexts (v : Int) (s : ByteArray) (w : World) : Calls Try.prog 8 #[.int .i64 v, .string s] w (Gives w (.bool true)) := by
  have T1 := Lib.hid (fun W => votes_Text v W)
  have T2 := Lib.hid (fun W => ref18_Text v W)
  have R1 := Lib.hid (fun W => votes_Read s W)
  have R2 := Lib.hid (fun W => ref18_Read s W)
  have R3 := Lib.hid (fun W => votes_Read (textOf v) W)
  have HT := Lib.hid (read_text (v := v))
  generalize readOf s = rs at *
  generalize readOf (textOf v) = rv at *
  generalize textOf v = tv at *
  by_cases h1 : v = 1
  · subst h1
    obtain rfl : rv = 1 := HT.out (.inl rfl)
    go_enter Try.func8, Try.ntmps8
    go_wp2_with fail
    refine (T1.out _).mono ?_
    rintro e w1 ⟨rfl, y, rfl⟩
    go_wp2_with fail
    refine (R3.out _).mono ?_
    rintro e w1 ⟨rfl, y, rfl⟩
    go_wp2_with fail
    refine (law_alive _).mono ?_
    rintro e w1 ⟨rfl, y, rfl⟩
    go_wp2_with fail
    refine (T1.out _).mono ?_
    rintro e w1 ⟨rfl, y, rfl⟩
    go_wp2_with fail
    refine (T2.out _).mono ?_
    rintro e w1 ⟨rfl, y, rfl⟩
    go_wp2_with fail
    refine (R1.out _).mono ?_
    rintro e w1 ⟨rfl, y, rfl⟩
    go_wp2_with fail
    refine (R2.out _).mono ?_
    rintro e w1 ⟨rfl, y, rfl⟩
    go_wp2_with fail
    go_ret
    exact .mk rfl (by simp only [ext_ext]; exact below_ext)
  by_cases h2 : v = 2
  · subst h2
    obtain rfl : rv = 2 := HT.out (.inr rfl)
    go_enter Try.func8, Try.ntmps8
    go_wp2_with fail
    refine (T1.out _).mono ?_
    rintro e w1 ⟨rfl, y, rfl⟩
    go_wp2_with fail
    refine (R3.out _).mono ?_
    rintro e w1 ⟨rfl, y, rfl⟩
    go_wp2_with fail
    refine (law_alive _).mono ?_
    rintro e w1 ⟨rfl, y, rfl⟩
    go_wp2_with fail
    refine (T1.out _).mono ?_
    rintro e w1 ⟨rfl, y, rfl⟩
    go_wp2_with fail
    refine (T2.out _).mono ?_
    rintro e w1 ⟨rfl, y, rfl⟩
    go_wp2_with fail
    refine (R1.out _).mono ?_
    rintro e w1 ⟨rfl, y, rfl⟩
    go_wp2_with fail
    refine (R2.out _).mono ?_
    rintro e w1 ⟨rfl, y, rfl⟩
    go_wp2_with fail
    go_ret
    exact .mk rfl (by simp only [ext_ext]; exact below_ext)
  have e1 : (v != 1) = true := by simp [h1]
  have e2 : (v != 2) = true := by simp [h2]
  clear h1 h2
  go_enter Try.func8, Try.ntmps8
  go_wp2_with fail
  refine (law_alive _).mono ?_
  rintro e w1 ⟨rfl, y, rfl⟩
  go_wp2_with fail
  refine (T1.out _).mono ?_
  rintro e w1 ⟨rfl, y, rfl⟩
  go_wp2_with fail
  refine (T2.out _).mono ?_
  rintro e w1 ⟨rfl, y, rfl⟩
  go_wp2_with fail
  refine (R1.out _).mono ?_
  rintro e w1 ⟨rfl, y, rfl⟩
  go_wp2_with fail
  refine (R2.out _).mono ?_
  rintro e w1 ⟨rfl, y, rfl⟩
  go_wp2_with fail
  go_ret
  exact .mk rfl (by simp only [ext_ext]; exact below_ext)

theorem readVotesTexts_28 : Try.prog.readableRec 28 = true ∧ 28 < Try.prog.types.size := ⟨by kernel_rfl, of_decide_eq_true (by kernel_rfl)⟩
theorem readVotesTexts_9 : Try.prog.readableRec 9 = true ∧ 9 < Try.prog.types.size := ⟨by kernel_rfl, of_decide_eq_true (by kernel_rfl)⟩
theorem ownVotesTexts : ownKnob Try.prog.godebug = none := by kernel_rfl
theorem laidOutVotesTexts : laidOutB Try.prog = true := by kernel_rfl
theorem contractVotesTexts (H : Type) (enc : TypeId × Value → H) (W : World) (base : Nat) (args : Array Value) (ds gs : List (DataW H)) (before : List MemPlace)
    (hval : ∀ (j : Nat) t v, Try.f8.params[j]? = some t → args[j]? = some v → Value.okWide Try.prog W .any base t v)
    (hW : DataW.Whole enc Try.prog Try.f8.params.toList Rows.votesTextsSpec.vars false W args.toList ds gs before) (hk : Rows.uptoSmall H (ds ++ gs) = true) :
    Calls Try.prog 8 args W fun e W' => ∃ v, e = .returned v ∧ Rows.votesTextsSpec.post enc Try.prog Try.f8 false true false false W args v W' := by
  have hfin : ∀ W', Below W.heap.size W W' → Rows.votesTextsSpec.post enc Try.prog Try.f8 false true false false W args (.bool true) W' := fun W' hb =>
    post_of_walk (n := 2) (boolT := 4) rfl (fun ds h => by match ds, h with | [a0, a1], _ => exact ⟨rfl, rfl, rfl⟩) rfl rfl Try.underlying4 laidOutVotesTexts (fun t ht => by rw [Try.params8] at ht; simp at ht; rcases ht with rfl | rfl; exact readVotesTexts_28; exact readVotesTexts_9) hW hb
  have hN : Rows.uptoBulkAll (ds ++ gs) ≤ 1048576 := of_decide_eq_true hk
  obtain ⟨p, q, hA, hV, rfl, hfz, hnd⟩ := hW
  rw [Try.params8] at hA hval
  obtain ⟨v0, vs0, d0, ds0, p0, q0, hargs, rfl, rfl, h0, r0⟩ := trodAll_cons hA
  obtain ⟨v1, vs1, d1, ds1, p1, q1, rfl, rfl, rfl, h1, r1⟩ := trodAll_cons r0
  obtain ⟨rfl, rfl, rfl⟩ := trodAll_nil r1
  obtain rfl : args = #[v0, v1] := by cases args; simp_all
  simp only [List.cons_append, List.nil_append, Rows.uptoBulkAll] at hN
  obtain ⟨x0, rfl⟩ := okWide_int Try.underlying28 (hval 0 28 v0 rfl rfl)
  obtain ⟨f0, g0⟩ := h0
  have ty0 := typed_of_trod (N := 1048576) f0 _ _ _ g0 (by simp only; omega)
  obtain ⟨x1, rfl⟩ := okWide_string Try.underlying9 (hval 1 9 v1 rfl rfl)
  obtain ⟨f1, g1⟩ := h1
  have ty1 := typed_of_trod (N := 1048576) f1 _ _ _ g1 (by simp only; omega)
  exact (walkTexts _ _ W).mono fun e W' ⟨he, y, hy⟩ => ⟨_, he, hfin W' (by rw [hy]; exact below_ext)⟩

set_option maxRecDepth 100000 in
theorem liftedVotesTexts (os : Os) (started : os.Started) (H : Type) (enc : TypeId × Value → H) (F : Stop.Interp) :
    ReturnsInHanded {} Try.checked os 8 .any ((Rows.OpenSpec.upto Rows.votesTextsSpec).pre6 enc Try.prog Try.f8 Rows.votesTextsUptoRow.domain false) (((Rows.OpenSpec.upto Rows.votesTextsSpec).at F).post enc Try.prog Try.f8 false true false false) := by
  refine returnsInHanded_of_cond (C := Try.checked) (s := Rows.OpenSpec.upto Rows.votesTextsSpec) (k := Rows.uptoSmall) rfl ownVotesTexts started (by kernel_rfl) Try.func8
    (OpenSpec.witness (enc := enc) (C := Try.checked) (s := Rows.OpenSpec.upto Rows.votesTextsSpec) (k := Rows.uptoSmall) rfl false
      ⟨#[], #[.int .i64 0, .string .empty], []⟩ 8 (by kernel_rfl) (by kernel_rfl) (by kernel_rfl)
      (x := ([.lit (.int .i64 0), .lit (.string [])], [], [])) (by kernel_rfl) rfl (by kernel_rfl)) ?_
  intro W base args ds gs before hval hW _ hk _
  exact contractVotesTexts H enc W base args ds gs before hval hW hk

theorem VotesTexts_holds : Rows.VotesTextsUptoSaid :=
  OpenClaim.holds_of_cond 8 Try.f8 rfl rfl rfl rfl rfl rfl rfl ⟨rfl, rfl, rfl, rfl, rfl⟩ rfl rfl rfl rfl rfl (by kernel_rfl) Try.func8 (by kernel_rfl)
    (of_decide_eq_true (by kernel_rfl)) (by unfold Func.isWrapper; first | (rw [if_pos (by decide +kernel)]; kernel_rfl) | (rw [if_neg (by decide +kernel)]; exact ⟨rfl, rfl⟩))
    (fun os started H enc _ F => liftedVotesTexts os started H enc F)
end Go.Proofs.Yteheajddplkmdaa
