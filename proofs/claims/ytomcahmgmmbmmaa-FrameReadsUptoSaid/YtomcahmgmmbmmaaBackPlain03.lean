/- PLAIN LAW: what was wrapped is unwrapped; a change within four bytes is seen. No program in sight. -/
import Derived.Test.YtomcahmgmmbmmaaUnwrap03
set_option linter.unusedVariables false
set_option linter.unusedSimpArgs false
namespace Go.Proofs.Ytomcahmgmmbmmaa
open Go.Tk
theorem maskP (x : BitVec 32) : (0x82F63B78#32 &&& -(x &&& 1#32)) = if x.getLsbD 0 then 0x82F63B78#32 else 0#32 := by
  rw [BitVec.and_one_eq_setWidth_ofBool_getLsbD]
  cases x.getLsbD 0 <;> decide
theorem stepP_eq (x : BitVec 32) : stepP x = x >>> 1 ^^^ (if x.getLsbD 0 then 0x82F63B78#32 else 0#32) := by
  unfold stepP
  rw [maskP]
theorem stepP_xor (x y : BitVec 32) : stepP (x ^^^ y) = stepP x ^^^ stepP y := by
  simp only [stepP_eq, BitVec.ushiftRight_xor_distrib, BitVec.getLsbD_xor]
  generalize x >>> 1 = a
  generalize y >>> 1 = b
  have e : ∀ p q r s : BitVec 32, p ^^^ q ^^^ (r ^^^ s) = p ^^^ r ^^^ (q ^^^ s) := fun p q r s => by
    rw [BitVec.xor_assoc, BitVec.xor_assoc, ← BitVec.xor_assoc q r s, BitVec.xor_comm q r, BitVec.xor_assoc r q s]
  cases x.getLsbD 0 <;> cases y.getLsbD 0 <;> simp [BitVec.xor_assoc, BitVec.xor_comm]
  all_goals (first | rfl | (rw [BitVec.xor_comm b, ← BitVec.xor_assoc, BitVec.xor_self, BitVec.zero_xor]) | (rw [← BitVec.xor_assoc, BitVec.xor_comm a, BitVec.xor_assoc]) | skip)
theorem iterP_xor : ∀ (n : Nat) (x y : BitVec 32), iterP n (x ^^^ y) = iterP n x ^^^ iterP n y
  | 0, _, _ => rfl
  | n + 1, x, y => by simp only [iterP, iterP_xor n, stepP_xor]
theorem getLsb0 (x : BitVec 32) : x.getLsbD 0 = decide (x.toNat % 2 = 1) := by
  simp [BitVec.getLsbD, Nat.testBit_zero]
theorem half_nat (x : BitVec 32) : (x >>> 1).toNat = x.toNat / 2 := by
  rw [BitVec.toNat_ushiftRight, Nat.shiftRight_eq_div_pow]
theorem stepP_even (x : BitVec 32) (h : x.toNat % 2 = 0) : (stepP x).toNat = x.toNat / 2 := by
  rw [stepP_eq, getLsb0]
  have : ¬ (x.toNat % 2 = 1) := by omega
  simp [this, Nat.shiftRight_eq_div_pow]
theorem xor_zero' {x y : BitVec 32} (h : x ^^^ y = 0#32) : x = y := by
  have := congrArg (· ^^^ y) h
  simpa [BitVec.xor_assoc] using this
theorem stepP_zero (x : BitVec 32) (h : stepP x = 0#32) : x = 0#32 := by
  have hx := x.isLt
  by_cases hp : x.toNat % 2 = 0
  · have h1 := stepP_even x hp
    rw [h] at h1
    have h2 : x.toNat = 0 := by
      simp at h1
      omega
    exact BitVec.eq_of_toNat_eq (by simpa using h2)
  · rw [stepP_eq, getLsb0] at h
    have : x.toNat % 2 = 1 := by omega
    simp only [this, decide_true, if_true] at h
    have h2 := congrArg BitVec.toNat (xor_zero' h)
    rw [half_nat] at h2
    have h3 : (0x82F63B78#32).toNat = 2197175160 := rfl
    rw [h3] at h2
    omega
theorem iterP_zero : ∀ (n : Nat) (x : BitVec 32), iterP n x = 0#32 → x = 0#32
  | 0, _, h => h
  | n + 1, x, h => iterP_zero n x (stepP_zero _ h)
theorem iterP_inj (n : Nat) {x y : BitVec 32} (h : iterP n x = iterP n y) : x = y := by
  apply xor_zero'
  apply iterP_zero n
  rw [iterP_xor, h, BitVec.xor_self]
theorem iterP_shift (v m : Nat) (x : BitVec 32) (hx : x.toNat = v * 2 ^ m) : ∀ n, n ≤ m → (iterP n x).toNat = v * 2 ^ (m - n)
  | 0, _ => by simpa [iterP] using hx
  | n + 1, h => by
    have ih := iterP_shift v m x hx n (by omega)
    have e : m - n = (m - (n + 1)) + 1 := by omega
    rw [e, Nat.pow_succ, ← Nat.mul_assoc] at ih
    simp only [iterP]
    rw [stepP_even _ (by omega)]
    omega
def pack : List UInt8 → Nat
  | [] => 0
  | d :: ds => pack ds * 256 + d.toNat
theorem pack_lt : ∀ ds : List UInt8, pack ds < 256 ^ ds.length
  | [] => by simp [pack]
  | d :: ds => by
    have := pack_lt ds
    have := d.toNat_lt
    simp only [pack, List.length_cons, Nat.pow_succ]
    omega
theorem pack_zero : ∀ ds : List UInt8, pack ds = 0 → ∀ d ∈ ds, d = 0
  | [], _, d, h => by simp at h
  | x :: ds, h, d, hd => by
    simp only [pack] at h
    rcases List.mem_cons.1 hd with rfl | hd
    · exact UInt8.toNat_inj.1 (by simpa using (by omega : d.toNat = 0))
    · exact pack_zero ds (by omega) d hd
theorem byte_toNat (d : UInt8) : (d.toBitVec.setWidth 32).toNat = d.toNat := by
  rw [BitVec.toNat_setWidth]
  have : d.toBitVec.toNat = d.toNat := rfl
  rw [this]
  have := d.toNat_lt
  omega
/-- what comes to zero by at most four bytes is these bytes -/
theorem rawP_back : ∀ (ds : List UInt8) (x : BitVec 32), ds.length ≤ 4 → rawP x ds = 0#32 → x.toNat = pack ds
  | [], x, _, h => by
    have : x = 0#32 := h
    subst this
    rfl
  | d :: ds, x, hl, h => by
    simp only [List.length_cons] at hl
    have ih := rawP_back ds (byteP x d) (by omega) (by simpa [rawP] using h)
    have hp : pack ds < 256 ^ 3 := Nat.lt_of_lt_of_le (pack_lt ds) (Nat.pow_le_pow_right (by omega) (by omega))
    have hv : (BitVec.ofNat 32 (pack ds * 256)).toNat = pack ds * 2 ^ 8 := by
      rw [BitVec.toNat_ofNat]
      omega
    have hs := iterP_shift (pack ds) 8 (BitVec.ofNat 32 (pack ds * 256)) hv 8 (Nat.le_refl _)
    have he : iterP 8 (BitVec.ofNat 32 (pack ds * 256)) = byteP x d := BitVec.eq_of_toNat_eq (by rw [hs, ih]; simp)
    have hx : BitVec.ofNat 32 (pack ds * 256) = inB x d := iterP_inj 8 he
    have hx2 : x = BitVec.ofNat 32 (pack ds * 256) ^^^ d.toBitVec.setWidth 32 := by
      rw [hx]
      unfold inB
      rw [BitVec.xor_assoc, BitVec.xor_self, BitVec.xor_zero]
    rw [hx2, BitVec.toNat_xor, hv, byte_toNat]
    simp only [pack]
    have hd := d.toNat_lt
    rw [Nat.mul_comm (pack ds) (2 ^ 8), Nat.xor_comm]
    have := Nat.two_pow_add_eq_or_of_lt (i := 8) (b := d.toNat) (by omega) (pack ds)
    have hx3 : d.toNat ^^^ (2 ^ 8 * pack ds) = 2 ^ 8 * pack ds + d.toNat := by
      rw [this]
      apply Nat.eq_of_testBit_eq
      intro i
      rw [Nat.testBit_xor, Nat.testBit_or]
      by_cases hi : i < 8
      · have : (2 ^ 8 * pack ds).testBit i = false := by
          rw [Nat.testBit_two_pow_mul]
          simp; omega
        simp [this]
      · have : d.toNat.testBit i = false := Nat.testBit_lt_two_pow (Nat.lt_of_lt_of_le (by omega : d.toNat < 2 ^ 8) (Nat.pow_le_pow_right (by omega) (by omega)))
        simp [this]
    rw [hx3]
    try omega
theorem rawP_xor : ∀ (l m : List UInt8) (x y : BitVec 32), l.length = m.length → rawP x l ^^^ rawP y m = rawP (x ^^^ y) (List.zipWith (· ^^^ ·) l m)
  | [], [], _, _, _ => rfl
  | a :: l, b :: m, x, y, h => by
    have ih := rawP_xor l m (byteP x a) (byteP y b) (by simpa using h)
    have e : byteP x a ^^^ byteP y b = byteP (x ^^^ y) (a ^^^ b) := by
      unfold byteP
      rw [← iterP_xor]
      congr 1
      unfold inB
      have hs : (a ^^^ b).toBitVec.setWidth 32 = a.toBitVec.setWidth 32 ^^^ b.toBitVec.setWidth 32 := by
        rw [← BitVec.setWidth_xor]
        rfl
      rw [hs]
      generalize a.toBitVec.setWidth 32 = p
      generalize b.toBitVec.setWidth 32 = q
      rw [BitVec.xor_assoc, BitVec.xor_assoc, ← BitVec.xor_assoc p y q, BitVec.xor_comm p y, BitVec.xor_assoc y p q]
    rw [e] at ih
    simpa [rawP] using ih
  | [], _ :: _, _, _, h => by simp at h
  | _ :: _, [], _, _, h => by simp at h
theorem rawP_inj (l : List UInt8) {x y : BitVec 32} (h : rawP x l = rawP y l) : x = y := by
  induction l generalizing x y with
  | nil => exact h
  | cons a l ih =>
    have h2 := ih (x := byteP x a) (y := byteP y a) (by simpa [rawP] using h)
    have h3 := iterP_inj 8 h2
    unfold inB at h3
    have := congrArg (· ^^^ a.toBitVec.setWidth 32) h3
    simpa [BitVec.xor_assoc] using this
theorem zip_zero : ∀ (l m : List UInt8), l.length = m.length → (∀ d ∈ List.zipWith (· ^^^ ·) l m, d = 0) → l = m
  | [], [], _, _ => rfl
  | a :: l, b :: m, h, hz => by
    simp only [List.zipWith_cons_cons, List.mem_cons, forall_eq_or_imp] at hz
    have h1 : a = b := by
      have := congrArg (· ^^^ b) hz.1
      simpa [UInt8.xor_assoc] using this
    rw [h1, zip_zero l m (by simpa using h) hz.2]
  | [], _ :: _, h, _ => by simp at h
  | _ :: _, [], h, _ => by simp at h
/-- a change within four bytes changes the sum -/
theorem crc_burst (s : BitVec 32) (X m m' Y : List UInt8) (hl : m.length = m'.length) (h4 : m.length ≤ 4) (h : crc s (X ++ m ++ Y) = crc s (X ++ m' ++ Y)) : m = m' := by
  unfold crc at h
  have h1 : rawP (~~~ s) (X ++ m ++ Y) = rawP (~~~ s) (X ++ m' ++ Y) := by
    have := congrArg (~~~ ·) h
    simpa using this
  rw [rawP_append, rawP_append _ _ Y] at h1
  have h2 := rawP_inj Y h1
  rw [rawP_append, rawP_append] at h2
  have h3 := rawP_xor m m' (rawP (~~~ s) X) (rawP (~~~ s) X) hl
  rw [h2, BitVec.xor_self, BitVec.xor_self] at h3
  have h4' := rawP_back _ 0#32 (by rw [List.length_zipWith]; omega) h3.symm
  exact zip_zero m m' hl (pack_zero _ h4'.symm)

theorem num4_app (n : Nat) (h : n < 4294967296) (r : List UInt8) : num4 (four4 n ++ r) = n := by
  have := num4_four4 n h
  simpa [num4, four4] using this
theorem sumP_lt (s l : List UInt8) : sumP s l < 4294967296 := (crc (crc 0#32 s) l).isLt
theorem wrap_parts (l : List UInt8) (hl : l.length ≤ 65536) : (wrapP l).length = l.length + 10 ∧ (wrapP l).getD 0 0 = 84 ∧ (wrapP l).getD 1 0 = 78 ∧ (wrapP l).drop 10 = l ∧ ((wrapP l).drop 2).take 4 = four4 l.length ∧ num4 ((wrapP l).drop 2) = l.length ∧ num4 ((wrapP l).drop 6) = sumP (four4 l.length) l := by
  refine ⟨wrapP_len l, rfl, rfl, by simp [wrapP, four4], by simp [wrapP, four4], ?_, ?_⟩
  · have : (wrapP l).drop 2 = four4 l.length ++ (four4 (sumP (four4 l.length) l) ++ l) := by simp [wrapP]
    rw [this, num4_app _ (by omega)]
  · have : (wrapP l).drop 6 = four4 (sumP (four4 l.length) l) ++ l := by simp [wrapP, four4]
    rw [this, num4_app _ (sumP_lt _ _)]
theorem unwrap_wrap (l : List UInt8) (hl : l.length ≤ 65536) : unwrapP (wrapP l) = (some l, 0) := by
  obtain ⟨h1, h2, h3, h4, h5, h6, h7⟩ := wrap_parts l hl
  have hf : faultP (wrapP l) = (l.length + 10, 0) := by
    unfold faultP
    rw [h1, h2, h3, h6]
    rw [if_neg (by simp), if_neg (by omega), if_neg (by omega)]
  unfold unwrapP
  rw [hf, h1]
  rw [if_neg (by omega), if_neg (by simp), if_neg (by simp)]
  unfold bodyP
  rw [h4, h5, h7, if_pos rfl]
/-- where a change begins, how far it may go -/
def windowEnd (at_ : Nat) : Nat := if at_ < 6 then at_ + 1 else if at_ < 10 then 10 else at_ + 4
theorem getD_eq (l m : List UInt8) (i : Nat) (h : l[i]? = m[i]?) : l.getD i 0 = m.getD i 0 := by rw [List.getD_eq_getElem?_getD, List.getD_eq_getElem?_getD, h]
theorem num4_inj {l m : List UInt8} (h : num4 l = num4 m) : l.getD 0 0 = m.getD 0 0 ∧ l.getD 1 0 = m.getD 1 0 ∧ l.getD 2 0 = m.getD 2 0 ∧ l.getD 3 0 = m.getD 3 0 := by
  unfold num4 at h
  have a0 := (l.getD 0 0).toNat_lt
  have a1 := (l.getD 1 0).toNat_lt
  have a2 := (l.getD 2 0).toNat_lt
  have a3 := (l.getD 3 0).toNat_lt
  have b0 := (m.getD 0 0).toNat_lt
  have b1 := (m.getD 1 0).toNat_lt
  have b2 := (m.getD 2 0).toNat_lt
  have b3 := (m.getD 3 0).toNat_lt
  exact ⟨UInt8.toNat_inj.1 (by omega), UInt8.toNat_inj.1 (by omega), UInt8.toNat_inj.1 (by omega), UInt8.toNat_inj.1 (by omega)⟩
theorem num4_congr {l m : List UInt8} (h : ∀ i, i < 4 → l[i]? = m[i]?) : num4 l = num4 m := by
  unfold num4
  rw [getD_eq l m 0 (h 0 (by omega)), getD_eq l m 1 (h 1 (by omega)), getD_eq l m 2 (h 2 (by omega)), getD_eq l m 3 (h 3 (by omega))]
/-- a frame in which something within a window was changed is refused -/
theorem unwrap_spoilt (l m : List UInt8) (hl : l.length ≤ 65536) (hlen : m.length = (wrapP l).length) (at_ : Nat) (hat : ∀ i, i < at_ ∨ windowEnd at_ ≤ i → m[i]? = (wrapP l)[i]?) (hne : m ≠ wrapP l) : (unwrapP m).2 ≠ 0 := by
  obtain ⟨h1, h2, h3, h4, h5, h6, h7⟩ := wrap_parts l hl
  obtain ⟨j, hj⟩ : ∃ j, m[j]? ≠ (wrapP l)[j]? := by
    apply Classical.byContradiction
    intro hn
    exact hne (List.ext_getElem? fun i => Classical.byContradiction fun hc => hn ⟨i, hc⟩)
  have hjw : at_ ≤ j ∧ j < windowEnd at_ := by
    refine ⟨Nat.le_of_not_lt fun hc => hj (hat j (.inl hc)), Nat.lt_of_not_le fun hc => hj (hat j (.inr hc))⟩
  have hgd : ∀ i, m[i]? = (wrapP l)[i]? → m.getD i 0 = (wrapP l).getD i 0 := fun i h => getD_eq _ _ i h
  have hget : ∀ i, i < m.length → m[i]? ≠ (wrapP l)[i]? → m.getD i 0 ≠ (wrapP l).getD i 0 := fun i hi hn he => by
    rw [List.getD_eq_getElem?_getD, List.getD_eq_getElem?_getD, List.getElem?_eq_getElem hi, List.getElem?_eq_getElem (by omega)] at he
    rw [List.getElem?_eq_getElem hi, List.getElem?_eq_getElem (by omega)] at hn
    exact hn (by simpa using he)
  have hjl : j < m.length := by
    apply Nat.lt_of_not_le
    intro hc
    exact hj (by rw [List.getElem?_eq_none hc, List.getElem?_eq_none (by omega)])
  have hjd := hget j hjl hj
  have h10 : ¬ m.length < 10 := by omega
  have hdrop : ∀ k i, (m.drop k)[i]? = m[k + i]? := fun k i => List.getElem?_drop
  have hdrop2 : ∀ k i, ((wrapP l).drop k)[i]? = (wrapP l)[k + i]? := fun k i => List.getElem?_drop
  unfold unwrapP
  rw [if_neg h10]
  by_cases c0 : j = 0
  · subst c0
    have hf : faultP m = (0, 32) := by
      unfold faultP
      rw [if_pos (.inl ⟨by omega, by rw [← h2]; exact hjd⟩)]
    rw [hf, if_pos (by simp)]
    simp
  by_cases c1 : j = 1
  · subst c1
    have hf : faultP m = (0, 32) := by
      unfold faultP
      rw [if_pos (.inr ⟨by omega, by rw [← h3]; exact hjd⟩)]
    rw [hf, if_pos (by simp)]
    simp
  have hw : windowEnd at_ ≤ 6 ∨ 6 ≤ at_ := by unfold windowEnd; split <;> omega
  have hat2 : 2 ≤ at_ := by unfold windowEnd at hjw; split at hjw <;> omega
  have e0 : m.getD 0 0 = 84 := by rw [hgd 0 (hat 0 (.inl (by omega))), h2]
  have e1 : m.getD 1 0 = 78 := by rw [hgd 1 (hat 1 (.inl (by omega))), h3]
  have hf : faultP m = if 65536 < num4 (m.drop 2) then (0, 31) else (num4 (m.drop 2) + 10, 0) := by
    unfold faultP
    rw [e0, e1, if_neg (by simp), if_neg (by omega)]
  rcases hw with hw | hw
  · -- the length
    have hn : num4 (m.drop 2) ≠ l.length := by
      intro he
      rw [← h6] at he
      obtain ⟨g0, g1, g2, g3⟩ := num4_inj he
      simp only [List.getD_eq_getElem?_getD, hdrop, hdrop2] at g0 g1 g2 g3
      have : j = 2 ∨ j = 3 ∨ j = 4 ∨ j = 5 := by omega
      simp only [List.getD_eq_getElem?_getD] at hjd
      rcases this with rfl | rfl | rfl | rfl
      · exact hjd g0
      · exact hjd g1
      · exact hjd g2
      · exact hjd g3
    rw [hf]
    by_cases hb : 65536 < num4 (m.drop 2)
    · rw [if_pos hb]
      rw [if_pos (by simp)]
      simp
    · rw [if_neg hb]
      rw [if_neg (by simp), if_pos (by simp; omega)]
      simp
  · have hn : num4 (m.drop 2) = l.length := by
      rw [← h6]
      exact num4_congr (fun i hi => by rw [hdrop, hdrop2]; exact hat _ (.inl (by omega)))
    have hf2 : faultP m = (l.length + 10, 0) := by rw [hf, hn, if_neg (by omega)]
    rw [hf2, if_neg (by simp), if_neg (by simp; omega)]
    have ht : (m.drop 2).take 4 = four4 l.length := by
      rw [← h5]
      apply List.ext_getElem?
      intro i
      rw [List.getElem?_take, List.getElem?_take, hdrop, hdrop2]
      split
      · exact hat _ (.inl (by omega))
      · rfl
    unfold bodyP
    rw [ht]
    by_cases hw2 : at_ < 10
    · -- the sum
      have hwe : windowEnd at_ = 10 := by unfold windowEnd; rw [if_neg (by omega), if_pos hw2]
      have hd : m.drop 10 = l := by
        rw [← h4]
        apply List.ext_getElem?
        intro i
        rw [hdrop, List.getElem?_drop]
        exact hat (10 + i) (.inr (by omega))
      have hn6 : num4 (m.drop 6) ≠ sumP (four4 l.length) l := by
        intro he
        rw [← h7] at he
        obtain ⟨g0, g1, g2, g3⟩ := num4_inj he
        simp only [List.getD_eq_getElem?_getD, hdrop, hdrop2] at g0 g1 g2 g3
        have : j = 6 ∨ j = 7 ∨ j = 8 ∨ j = 9 := by omega
        simp only [List.getD_eq_getElem?_getD] at hjd
        rcases this with rfl | rfl | rfl | rfl
        · exact hjd g0
        · exact hjd g1
        · exact hjd g2
        · exact hjd g3
      rw [hd, if_neg (fun e => hn6 e.symm)]
      simp
    · have hwe : windowEnd at_ = at_ + 4 := by unfold windowEnd; rw [if_neg (by omega), if_neg hw2]
      have hn6 : num4 (m.drop 6) = sumP (four4 l.length) l := by
        rw [← h7]
        exact num4_congr (fun i hi => by rw [hdrop, hdrop2]; exact hat _ (.inl (by omega)))
      rw [hn6]
      obtain ⟨b, hb⟩ : ∃ b, b = m.drop 10 := ⟨_, rfl⟩
      rw [← hb]
      have hbl : b.length = l.length := by rw [hb, List.length_drop]; omega
      have hbi : ∀ i, i < at_ - 10 ∨ at_ - 10 + 4 ≤ i → b[i]? = l[i]? := fun i hi => by
        rw [hb, hdrop, hat (10 + i) (by omega), ← hdrop2, h4]
      have hbne : b ≠ l := by
        intro he
        have : m[j]? = (wrapP l)[j]? := by
          rw [show j = 10 + (j - 10) by omega, ← hdrop, ← hdrop2, ← hb, he, h4]
        exact hj this
      have hs : sumP (four4 l.length) b ≠ sumP (four4 l.length) l := by
        intro he
        apply hbne
        have e1 : b = b.take (at_ - 10) ++ (b.drop (at_ - 10)).take 4 ++ b.drop (at_ - 10 + 4) := by
          rw [List.append_assoc, ← List.drop_drop, List.take_append_drop, List.take_append_drop]
        have e2 : l = l.take (at_ - 10) ++ (l.drop (at_ - 10)).take 4 ++ l.drop (at_ - 10 + 4) := by
          rw [List.append_assoc, ← List.drop_drop, List.take_append_drop, List.take_append_drop]
        have t1 : b.take (at_ - 10) = l.take (at_ - 10) := by
          apply List.ext_getElem?
          intro i
          rw [List.getElem?_take, List.getElem?_take]
          split
          · exact hbi i (.inl (by omega))
          · rfl
        have t2 : b.drop (at_ - 10 + 4) = l.drop (at_ - 10 + 4) := by
          apply List.ext_getElem?
          intro i
          rw [List.getElem?_drop, List.getElem?_drop]
          exact hbi _ (.inr (by omega))
        have hc : crc (crc 0#32 (four4 l.length)) b = crc (crc 0#32 (four4 l.length)) l := BitVec.eq_of_toNat_eq he
        rw [e1, e2, t1, t2] at hc
        have hm := crc_burst _ _ _ _ _ (by rw [List.length_take, List.length_take, List.length_drop, List.length_drop]; omega) (by rw [List.length_take]; omega) hc
        rw [e1, e2, t1, t2, hm]
      rw [if_neg hs]
      simp
end Go.Proofs.Ytomcahmgmmbmmaa
