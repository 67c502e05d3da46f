/- WALKS: the document's sum, numbers, frames (tontineref03): they come to the same plain functions. -/
import Derived.Test.YtomcahmgmmbmmaaAwake03
import Derived.Test.YtomcahmgmmbmmaaBackPlain03
set_option linter.unusedVariables false
set_option linter.unusedSimpArgs false
namespace Go.Proofs.Ytomcahmgmmbmmaa
open Go.RowKit Go.Tk
theorem stepP_odd (x : BitVec 32) (h : x.toNat % 2 = 1) : stepP x = x >>> 1 ^^^ 0x82F63B78#32 := by
  rw [stepP_eq, getLsb0, h]; rfl
theorem stepP_ev (x : BitVec 32) (h : x.toNat % 2 = 0) : stepP x = x >>> 1 := by
  rw [stepP_eq, getLsb0, h]; simp
theorem xor_parity (x y : BitVec 32) : (x ^^^ y).toNat % 2 = (x.toNat + y.toNat) % 2 := by
  have h := getLsb0 (x ^^^ y)
  rw [BitVec.getLsbD_xor, getLsb0, getLsb0] at h
  have h1 : x.toNat % 2 = 0 ∨ x.toNat % 2 = 1 := by omega
  have h2 : y.toNat % 2 = 0 ∨ y.toNat % 2 = 1 := by omega
  have h3 : (x ^^^ y).toNat % 2 = 0 ∨ (x ^^^ y).toNat % 2 = 1 := by omega
  rcases h1 with h1 | h1 <;> rcases h2 with h2 | h2 <;> rcases h3 with h3 | h3 <;> simp only [h1, h2, h3] at h ⊢ <;> first | omega | simp at h
/-- a bit of the sum as the document says it: the rest and the byte side by side -/
theorem ref_step (x c : BitVec 32) : (if (x.toNat + c.toNat) % 2 = 1 then x >>> 1 ^^^ 0x82F63B78#32 else x >>> 1) ^^^ (c >>> 1) = stepP (x ^^^ c) := by
  by_cases h : (x.toNat + c.toNat) % 2 = 1
  · rw [if_pos h, stepP_odd _ (by rw [xor_parity]; exact h), BitVec.ushiftRight_xor_distrib]
    rw [BitVec.xor_assoc, BitVec.xor_assoc, BitVec.xor_comm (0x82F63B78#32)]
  · rw [if_neg h, stepP_ev _ (by rw [xor_parity]; omega), BitVec.ushiftRight_xor_distrib]
theorem not_sub (x : BitVec 32) : (4294967295 - (x.toNat : Int)) = ((~~~ x).toNat : Int) := by
  rw [BitVec.toNat_not]
  have := x.isLt
  omega
set_option maxRecDepth 100000 in
set_option maxHeartbeats 4000000 in
theorem r_Sum (w : World) (r : BitVec 32) (A : Option Addr) (c : Nat) (l : List UInt8) (h : Rd w A l) (hl : l.length ≤ 2000000) :
    Calls Try.prog 17 #[w32 r, .slice A l.length c] w (fun e w' => e = .returned (w32 (crc r l)) ∧ Mem w [] w' []) := by
  have O : Mem w [] w [] := Mem.begin
  obtain ⟨v, hv⟩ : ∃ v, v = crc r l := ⟨_, rfl⟩
  rw [← hv]
  have HV := Lib.hid hv
  clear hv
  simp only [w32]
  have H := Lib.hid h
  clear h
  have hr0 : (0 : Int) ≤ r.toNat := by omega
  have hr1 : (r.toNat : Int) ≤ 4294967295 := by have := r.isLt; omega
  go_enter Try.func17, Try.ntmps17
  have cs := O.facts
  simp only [factsP, cellsP, roomP, foots_cons, foots_nil, foots_append, foot_pt, ptb, ptb_mapA, foot_mapA, factsP_mapA, foot_bun, List.append_nil, List.nil_append, List.cons_append, List.nodup_cons, List.nodup_nil, List.mem_cons, List.not_mem_nil, List.mem_singleton, List.forall_mem_cons, not_or, not_false_eq_true, and_true, true_and, or_false, false_or, forall_eq_or_imp, forall_eq, implies_true, Nat.zero_add, Nat.reduceAdd, and_assoc, ptb_listA, factsP_listA, Nat.mul_one, rdL] at cs
  go_wp2_with fail
  clear hr0 hr1
  go_loopw [5, 6] (fun s5 s6 wr => ∃ (k : Nat) (x : BitVec 32), k ≤ l.length ∧ s6 = .int .i64 k ∧ s5 = .int .u32 (x.toNat : Int) ∧ Mem w [] wr [] ∧ Hid (x = rawP (~~~ r) (l.take k))) (fun _ s6 _ => l.length - (intOf s6).toNat)
  case atStart =>
    refine ⟨0, ~~~ r, by omega, rfl, ?_, O, Lib.hid rfl⟩
    rw [← not_sub]
  case round =>
    clear O
    obtain ⟨k, x, hk, rfl, rfl, O, HX⟩ := hrel
    by_cases hlt : k < l.length
    · obtain ⟨y, hy⟩ : ∃ y, l[k]? = some y := ⟨_, List.getElem?_eq_getElem hlt⟩
      have htk : l.take (k + 1) = l.take k ++ [y] := by rw [List.take_succ_eq_append_getElem hlt, (List.getElem?_eq_some_iff.1 hy).2]
      have HTK := Lib.hid htk
      obtain ⟨b, off, rfl, hb⟩ := H.out.addr (by omega)
      have V := Lib.hid (fun W (h : Fr [] w W) => (H.out.fr h).at_ hy)
      clear hy htk
      have cs := V.out _ O.fr
      have hyl := y.toNat_lt
      have hy1 : (y.toNat : Int) < 4294967296 := by omega
      have hy0 : (0 : Int) ≤ y.toNat := by omega
      clear hyl
      go_wp2_with fail
      clear cs hy1 hy0
      go_loopw [5, 7, 8] (fun s5 s7 s8 wr => ∃ (j : Nat) (z c : BitVec 32), j ≤ 8 ∧ s8 = .int .i64 j ∧ s5 = .int .u32 (z.toNat : Int) ∧ s7 = .int .u32 (c.toNat : Int) ∧ Mem w [] wr [] ∧ Hid (z ^^^ c = iterP j (inB x y) ∧ c.toNat = y.toNat / 2 ^ j)) (fun _ _ s8 _ => 8 - (intOf s8).toNat)
      case atStart =>
        refine ⟨0, x, y.toBitVec.setWidth 32, by omega, rfl, rfl, ?_, O, Lib.hid ⟨rfl, by rw [byte_toNat]; simp⟩⟩
        rw [byte_toNat]
      case round =>
        clear O
        obtain ⟨j, z, c, hj, rfl, rfl, rfl, O, HJ⟩ := hrel
        by_cases hjt : j < 8
        · have hst := ref_step z c
          have HST := Lib.hid hst
          clear hst
          obtain ⟨Z, hZ⟩ : ∃ Z : Int, Z = (z.toNat : Int) := ⟨_, rfl⟩
          obtain ⟨C, hC⟩ : ∃ C : Int, C = (c.toNat : Int) := ⟨_, rfl⟩
          rw [← hZ, ← hC]
          have hz1 : Z < 4294967296 := by have := z.isLt; omega
          have hz0 : 0 ≤ Z := by omega
          have hc1 : C < 4294967296 := by have := c.isLt; omega
          have hc0 : 0 ≤ C := by omega
          have HZ := Lib.hid hZ
          have HC := Lib.hid hC
          clear hZ hC
          have hcy : c.toNat / 2 = y.toNat / 2 ^ (j + 1) := by rw [HJ.out.2, Nat.div_div_eq_div_mul, Nat.pow_succ]
          have HCY := Lib.hid hcy
          clear hcy
          by_cases hp : (z.toNat + c.toNat) % 2 = 1
          · have hq : (Z + C) % 4294967296 % 2 = 1 := by have := HZ.out; have := HC.out; omega
            have HP := Lib.hid hp
            clear hp
            go_wp2_with fail
            go_roundw
            case rel =>
              refine ⟨j + 1, z >>> 1 ^^^ 0x82F63B78#32, c >>> 1, by omega, by go_num, ?_, ?_, O, Lib.hid ⟨?_, by rw [half_nat]; exact HCY.out⟩⟩
              · rw [HZ.out, half32, show (2197175160 : Int) = ((0x82F63B78#32).toNat : Int) from rfl, bits_xor32]
              · rw [HC.out, half32]
              · have := HST.out
                rw [if_pos HP.out] at this
                rw [this, HJ.out.1]
                rfl
            case measure => simp [intOf]; omega
          · have hq : (Z + C) % 4294967296 % 2 = 0 := by have := HZ.out; have := HC.out; omega
            have HP := Lib.hid hp
            clear hp
            go_wp2_with fail
            go_roundw
            case rel =>
              refine ⟨j + 1, z >>> 1, c >>> 1, by omega, by go_num, ?_, ?_, O, Lib.hid ⟨?_, by rw [half_nat]; exact HCY.out⟩⟩
              · rw [HZ.out, half32]
              · rw [HC.out, half32]
              · have := HST.out
                rw [if_neg HP.out] at this
                rw [this, HJ.out.1]
                rfl
            case measure => simp [intOf]; omega
        · obtain rfl : j = 8 := by omega
          have hfin : z = iterP 8 (inB x y) := by
            have h1 := HJ.out.1
            have h2 := HJ.out.2
            have h3 : c = 0#32 := BitVec.eq_of_toNat_eq (by rw [h2]; have := y.toNat_lt; simp; omega)
            rw [h3] at h1
            simpa using h1
          have HF := Lib.hid hfin
          clear hfin
          go_wp2_with fail
          go_roundw
          case rel => exact ⟨k + 1, z, by omega, by go_num, rfl, O, Lib.hid (by rw [HTK.out, rawP_snoc, ← HX.out, HF.out]; rfl)⟩
          case measure => simp [intOf]; omega
    · obtain rfl : k = l.length := by omega
      have hx := HX.out
      rw [List.take_length] at hx
      have HX2 := Lib.hid hx
      clear hx HX
      have hx1 : (x.toNat : Int) ≤ 4294967295 := by have := x.isLt; omega
      have hx0 : (0 : Int) ≤ x.toNat := by omega
      go_wp2_with fail
      go_ret
      refine ⟨?_, O⟩
      show Ending.returned (.int .u32 _) = _
      rw [HV.out, HX2.out, not_sub]
      rfl
theorem four4_snoc (n j : Nat) (h : j < 4) : (four4 n).take (j + 1) = (four4 n).take j ++ [UInt8.ofNat (n / 256 ^ j)] := by
  have : j = 0 ∨ j = 1 ∨ j = 2 ∨ j = 3 := by omega
  rcases this with rfl | rfl | rfl | rfl <;> simp [four4]
set_option maxRecDepth 100000 in
set_option maxHeartbeats 4000000 in
theorem r_four (w : World) (n : Nat) (hn : n < 4294967296) :
    Calls Try.prog 28 #[.int .u32 (n : Int)] w (fun e w' => ∃ A c, e = .returned (.slice A 4 c) ∧ Mem w [] w' [bytesA A c (four4 n)]) := by
  have O : Mem w [] w [] := Mem.begin
  go_enter Try.func28, Try.ntmps28
  have cs := O.facts
  simp only [factsP, cellsP, roomP, foots_cons, foots_nil, foots_append, foot_pt, ptb, ptb_mapA, foot_mapA, factsP_mapA, foot_bun, List.append_nil, List.nil_append, List.cons_append, List.nodup_cons, List.nodup_nil, List.mem_cons, List.not_mem_nil, List.mem_singleton, List.forall_mem_cons, not_or, not_false_eq_true, and_true, true_and, or_false, false_or, forall_eq_or_imp, forall_eq, implies_true, Nat.zero_add, Nat.reduceAdd, and_assoc, ptb_listA, factsP_listA, Nat.mul_one, rdL] at cs
  go_wp2_with fail
  go_loopw [0, 3, 4] (fun s0 s3 s4 wr => ∃ (j m : Nat) (A : Option Addr) (c : Nat), j ≤ 4 ∧ s4 = .int .i64 j ∧ s0 = .int .u32 (m : Int) ∧ s3 = .slice A ((four4 n).take j).length c ∧ Mem w [] wr [bytesA A c ((four4 n).take j)] ∧ Hid (m = n / 256 ^ j)) (fun _ _ s4 _ => 4 - (intOf s4).toNat)
  case atStart => exact ⟨0, n, none, 0, by omega, rfl, rfl, rfl, O.listNil, Lib.hid (by simp)⟩
  case round =>
    clear O
    obtain ⟨j, m, A, c, hj, rfl, rfl, rfl, O, HM⟩ := hrel
    by_cases hlt : j < 4
    · have hsn := four4_snoc n j hlt
      rw [← HM.out] at hsn
      have HSN := Lib.hid hsn
      have hm2 : m / 256 = n / 256 ^ (j + 1) := by rw [HM.out, Nat.div_div_eq_div_mul, Nat.pow_succ]
      have HM2 := Lib.hid hm2
      have hml : m < 4294967296 := by rw [HM.out]; exact Nat.lt_of_le_of_lt (Nat.div_le_self _ _) hn
      obtain ⟨M, hM⟩ : ∃ M : Int, M = (m : Int) := ⟨_, rfl⟩
      rw [← hM]
      have hM0 : 0 ≤ M := by omega
      have hM1 : M < 4294967296 := by omega
      have hMb : byteCells (UInt8.ofNat m) = [.int .u8 (M % 256)] := by
        rw [hM]
        simp [byteCells, UInt8.toNat_ofNat']
      have HMI := Lib.hid hM
      have HMB := Lib.hid hMb
      clear hsn hm2 hml hM hMb
      generalize (four4 n).take j = acc at *
      have hal : acc.length ≤ 4 := by
        have := congrArg List.length HSN.out
        have h4 := List.length_take_le (j + 1) (four4 n)
        rw [List.length_append] at this
        simp at this
        omega
      go_wp2_with (at_builtin; refine byteTy.wl_app ((show Mem w [] (wr.alloc (.cells [Value.int .u8 (M % 256)].toArray 5 (0, 0))) (.pt wr.heap.size (byteCells (UInt8.ofNat m)) 5 :: [bytesA A c acc]) by rw [HMB.out]; exact O.alloc _ _).front1 [false, true] rfl) rfl rfl rfl rfl [UInt8.ofNat m] rfl rfl (src_one (cs := byteCells) (fun _ => rfl) (show Mem w [] (wr.alloc (.cells [Value.int .u8 (M % 256)].toArray 5 (0, 0))) (.pt wr.heap.size (byteCells (UInt8.ofNat m)) 5 :: [bytesA A c acc]) by rw [HMB.out]; exact O.alloc _ _) (List.mem_cons_self ..)) (by simp; omega) ?_; intro A1 c1 w4 O4)
      go_roundw
      case rel =>
        refine ⟨j + 1, m / 256, A1, c1, by omega, by go_num, by rw [HMI.out]; simp, by rw [HSN.out]; simp, ?_, Lib.hid HM2.out⟩
        rw [HSN.out]
        exact O4.sel [true]
      case measure => simp [intOf]; omega
    · obtain rfl : j = 4 := by omega
      have h4 : (four4 n).take 4 = four4 n := by simp [four4]
      rw [h4] at O ⊢
      have hlen : (four4 n).length = 4 := rfl
      clear hn HM
      rw [hlen]
      go_wp2_with fail
      go_ret
      exact ⟨A, c, rfl, O⟩
def numA (l : List UInt8) : Nat → Nat
  | 0 => 0
  | j + 1 => 256 * numA l j + (l.getD (3 - j) 0).toNat
theorem numA4 (l : List UInt8) : numA l 4 = num4 l := by simp [numA, num4]; omega
theorem numA_lt (l : List UInt8) : ∀ j, numA l j < 256 ^ j
  | 0 => by simp [numA]
  | j + 1 => by
    have := numA_lt l j
    have := (l.getD (3 - j) 0).toNat_lt
    simp only [numA, Nat.pow_succ]
    omega
set_option maxRecDepth 100000 in
set_option maxHeartbeats 4000000 in
theorem r_number (w : World) (A : Option Addr) (c : Nat) (l : List UInt8) (h : Rd w A l) (hl : 4 ≤ l.length) :
    Calls Try.prog 29 #[.slice A l.length c] w (fun e w' => e = .returned (.int .u32 (num4 l : Int)) ∧ Mem w [] w' []) := by
  have O : Mem w [] w [] := Mem.begin
  have H := Lib.hid h
  clear h
  obtain ⟨b, off, rfl, hb⟩ := H.out.addr (by omega)
  go_enter Try.func29, Try.ntmps29
  go_wp2_with fail
  go_loopw [3, 4] (fun s3 s4 wr => ∃ (j : Nat) (i X : Int), j ≤ 4 ∧ i = 3 - (j : Int) ∧ s4 = .int .i64 i ∧ s3 = .int .u32 X ∧ Mem w [] wr [] ∧ Hid (X = (numA l j : Int))) (fun _ s4 _ => (intOf s4 + 1).toNat)
  case atStart => exact ⟨0, 3, 0, by omega, by omega, rfl, rfl, O, Lib.hid rfl⟩
  case round =>
    clear O
    obtain ⟨j, i, X, hj, hi, rfl, rfl, O, HX⟩ := hrel
    by_cases hlt : j < 4
    · obtain ⟨q, rfl⟩ := Int.eq_ofNat_of_zero_le (show 0 ≤ i by omega)
      have hq : q = 3 - j := by omega
      have hql : q < l.length := by omega
      obtain ⟨x, hx⟩ : ∃ x, l[q]? = some x := ⟨_, List.getElem?_eq_getElem hql⟩
      have hgd : l.getD (3 - j) 0 = x := by rw [← hq, List.getD_eq_getElem?_getD, hx]; rfl
      have hn : (numA l (j + 1) : Int) = 256 * X + (x.toNat : Int) := by rw [HX.out]; simp only [numA, hgd]; omega
      have hnl := numA_lt l (j + 1)
      have hp : 256 ^ (j + 1) ≤ 256 ^ 4 := Nat.pow_le_pow_right (by omega) (by omega)
      have V := Lib.hid (fun W (hW : Fr [] w W) => And.intro (roomP_of (Nat.lt_of_lt_of_le hb hW.size)) ((H.out.fr hW).at_ hx))
      obtain ⟨Y, hY⟩ : ∃ Y : Int, Y = (x.toNat : Int) := ⟨_, rfl⟩
      rw [← hY] at V hn
      have hq3 : (q : Int) ≤ 3 := by omega
      have hY0 : 0 ≤ Y := by omega
      have hY1 : Y < 256 := by have := x.toNat_lt; omega
      have hX0 : 0 ≤ X := by rw [HX.out]; omega
      have hX1 : 256 * X + Y < 4294967296 := by
        have h1 : numA l (j + 1) < 4294967296 := Nat.lt_of_lt_of_le hnl hp
        omega
      have HN := Lib.hid hn
      have HI := Lib.hid hi
      clear hn hi hq hgd hx hY hnl hp
      skip
      have cs := O.facts
      simp only [factsP, cellsP, roomP, foots_cons, foots_nil, foots_append, foot_pt, ptb, ptb_mapA, foot_mapA, factsP_mapA, foot_bun, List.append_nil, List.nil_append, List.cons_append, List.nodup_cons, List.nodup_nil, List.mem_cons, List.not_mem_nil, List.mem_singleton, List.forall_mem_cons, not_or, not_false_eq_true, and_true, true_and, or_false, false_or, forall_eq_or_imp, forall_eq, implies_true, Nat.zero_add, Nat.reduceAdd, and_assoc, ptb_listA, factsP_listA, Nat.mul_one, rdL] at cs
      have v1 := V.out _ O.fr
      simp only [roomP, and_assoc] at v1
      go_wp2_with fail
      go_roundw
      case rel => exact ⟨j + 1, (q : Int) - 1, 256 * X + Y, by omega, by have := HI.out; omega, rfl, by go_num, O, Lib.hid HN.out.symm⟩
      case measure => first | (simp [intOf]; done) | (simp [intOf]; omega)
    · obtain rfl : j = 4 := by omega
      obtain rfl : i = -1 := by omega
      have hx := HX.out
      rw [numA4] at hx
      subst hx
      clear HX
      go_wp2_with fail
      go_ret
      exact ⟨rfl, O⟩
set_option maxRecDepth 100000 in
set_option maxHeartbeats 4000000 in
theorem r_Wrap_long (w : World) (A : Option Addr) (c : Nat) (l : List UInt8) (hl : 65536 < l.length) :
    Calls Try.prog 12 #[.slice A l.length c] w (fun e w' => e = .returned (.tuple #[.slice none 0 0, .bool false]) ∧ Mem w [] w' []) := by
  have O : Mem w [] w [] := Mem.begin
  have hl2 : (65536 : Int) < l.length := by omega
  go_enter Try.func12, Try.ntmps12
  skip
  have cs := O.facts
  simp only [factsP, cellsP, roomP, foots_cons, foots_nil, foots_append, foot_pt, ptb, ptb_mapA, foot_mapA, factsP_mapA, foot_bun, List.append_nil, List.nil_append, List.cons_append, List.nodup_cons, List.nodup_nil, List.mem_cons, List.not_mem_nil, List.mem_singleton, List.forall_mem_cons, not_or, not_false_eq_true, and_true, true_and, or_false, false_or, forall_eq_or_imp, forall_eq, implies_true, Nat.zero_add, Nat.reduceAdd, and_assoc, ptb_listA, factsP_listA, Nat.mul_one, rdL] at cs
  go_wp2_with fail
  go_ret2
  exact ⟨rfl, O⟩
set_option maxRecDepth 100000 in
set_option maxHeartbeats 8000000 in
theorem r_Wrap (w : World) (A : Option Addr) (c : Nat) (l : List UInt8) (h : Rd w A l) (hl : l.length ≤ 65536) :
    Calls Try.prog 12 #[.slice A l.length c] w (fun e w' => ∃ A' c', e = .returned (.tuple #[.slice A' (wrapP l).length c', .bool true]) ∧ Mem w [] w' [bytesA A' c' (wrapP l)]) := by
  have O : Mem w [] w [] := Mem.begin
  have H := Lib.hid h
  clear h
  have hl2 : ¬ ((65536 : Int) < l.length) := by omega
  have hw : IntKind.u32.wrap (l.length : Int) = l.length := by simp [IntKind.wrap, IntKind.signed, IntKind.bits]; omega
  go_enter Try.func12, Try.ntmps12
  have cs := O.facts
  simp only [factsP, cellsP, roomP, foots_cons, foots_nil, foots_append, foot_pt, ptb, ptb_mapA, foot_mapA, factsP_mapA, foot_bun, List.append_nil, List.nil_append, List.cons_append, List.nodup_cons, List.nodup_nil, List.mem_cons, List.not_mem_nil, List.mem_singleton, List.forall_mem_cons, not_or, not_false_eq_true, and_true, true_and, or_false, false_or, forall_eq_or_imp, forall_eq, implies_true, Nat.zero_add, Nat.reduceAdd, and_assoc, ptb_listA, factsP_listA, Nat.mul_one, rdL] at cs
  go_wp2_with fail
  first | apply Mem.atCall | apply Mem.atCode | apply Mem.atList
  case h => repeat' (first | (with_reducible exact O) | (with_reducible apply Mem.drew) | (with_reducible apply Mem.drewN) | (with_reducible apply Mem.ext) | (with_reducible apply Mem.alloc) | (with_reducible apply Mem.setCell) | (simp only [ptb, ptb_upd, foots_cons, List.mem_cons, World.size_alloc, size_ext, World.size_setCell, true_or, or_true, eq_self_iff_true]))
  case' k =>
    intro w1 O'
    (try clear O)
    have O := O'
    clear O'
    (first | simp only [sel, rst, List.cons_append, List.nil_append, World.size_alloc, size_ext, World.size_setCell, size_setMap, World.size_drew, size_drewN, upd, List.set_cons_zero, List.set_cons_succ, if_true, if_false, reduceIte, not_false_eq_true, ne_lt0, ne_lt1, ne_lt2, ne_lt3, ne_lt4, cs] at O | simp only [sel, rst, List.cons_append, List.nil_append, World.size_alloc, size_ext, World.size_setCell, size_setMap, World.size_drew, size_drewN, upd, List.set_cons_zero, List.set_cons_succ, if_true, if_false, reduceIte, not_false_eq_true, ne_lt0, ne_lt1, ne_lt2, ne_lt3, ne_lt4] at O | skip)
    (try clear cs)
    (try clear v1)
    (try clear v2)
    (try clear v3)
  refine (r_four _ l.length (by omega)).mono ?_
  rintro e w2 ⟨Az, cz, rfl, o⟩
  replace O := O.callp [] o
  clear o
  simp only [put, List.cons_append, List.nil_append] at O
  clear hw
  have cs := O.facts
  simp only [factsP, cellsP, roomP, foots_cons, foots_nil, foots_append, foot_pt, ptb, ptb_mapA, foot_mapA, factsP_mapA, foot_bun, List.append_nil, List.nil_append, List.cons_append, List.nodup_cons, List.nodup_nil, List.mem_cons, List.not_mem_nil, List.mem_singleton, List.forall_mem_cons, not_or, not_false_eq_true, and_true, true_and, or_false, false_or, forall_eq_or_imp, forall_eq, implies_true, Nat.zero_add, Nat.reduceAdd, and_assoc, ptb_listA, factsP_listA, Nat.mul_one, rdL] at cs
  go_upto_region 5 with fail
  first | apply Mem.atCall | apply Mem.atCode | apply Mem.atList
  case h => repeat' (first | (with_reducible exact O) | (with_reducible apply Mem.drew) | (with_reducible apply Mem.drewN) | (with_reducible apply Mem.ext) | (with_reducible apply Mem.alloc) | (with_reducible apply Mem.setCell) | (simp only [ptb, ptb_upd, foots_cons, List.mem_cons, World.size_alloc, size_ext, World.size_setCell, true_or, or_true, eq_self_iff_true]))
  case' k =>
    intro w3 O'
    (try clear O)
    have O := O'
    clear O'
    (first | simp only [sel, rst, List.cons_append, List.nil_append, World.size_alloc, size_ext, World.size_setCell, size_setMap, World.size_drew, size_drewN, upd, List.set_cons_zero, List.set_cons_succ, if_true, if_false, reduceIte, not_false_eq_true, ne_lt0, ne_lt1, ne_lt2, ne_lt3, ne_lt4, cs] at O | simp only [sel, rst, List.cons_append, List.nil_append, World.size_alloc, size_ext, World.size_setCell, size_setMap, World.size_drew, size_drewN, upd, List.set_cons_zero, List.set_cons_succ, if_true, if_false, reduceIte, not_false_eq_true, ne_lt0, ne_lt1, ne_lt2, ne_lt3, ne_lt4] at O | skip)
    (try clear cs)
    (try clear v1)
    (try clear v2)
    (try clear v3)
  replace O := ptList (cs := byteCells) (l := [84, 78]) (fun _ => rfl) O (by simp [maxLen])
  generalize w2.heap.size = p2 at O ⊢
  simp only [List.length_cons, List.length_nil, Nat.zero_add, Nat.reduceAdd] at O
  have cs := O.facts
  simp only [factsP, cellsP, roomP, foots_cons, foots_nil, foots_append, foot_pt, ptb, ptb_mapA, foot_mapA, factsP_mapA, foot_bun, List.append_nil, List.nil_append, List.cons_append, List.nodup_cons, List.nodup_nil, List.mem_cons, List.not_mem_nil, List.mem_singleton, List.forall_mem_cons, not_or, not_false_eq_true, and_true, true_and, or_false, false_or, forall_eq_or_imp, forall_eq, implies_true, Nat.zero_add, Nat.reduceAdd, and_assoc, ptb_listA, factsP_listA, Nat.mul_one, rdL] at cs
  go_upto_region 6 with ((at_builtin; refine byteTy.wl_app O rfl rfl rfl rfl (four4 l.length) rfl rfl ((Mem.rd (c := cz) O (by simp)).src) (by simp [four4]) ?_; intro A1 c1 w4 O4))
  clear O
  have O := O4
  clear O4
  have cs := O.facts
  simp only [factsP, cellsP, roomP, foots_cons, foots_nil, foots_append, foot_pt, ptb, ptb_mapA, foot_mapA, factsP_mapA, foot_bun, List.append_nil, List.nil_append, List.cons_append, List.nodup_cons, List.nodup_nil, List.mem_cons, List.not_mem_nil, List.mem_singleton, List.forall_mem_cons, not_or, not_false_eq_true, and_true, true_and, or_false, false_or, forall_eq_or_imp, forall_eq, implies_true, Nat.zero_add, Nat.reduceAdd, and_assoc, ptb_listA, factsP_listA, Nat.mul_one, rdL] at cs
  go_wp2_with fail
  first | apply Mem.atCall | apply Mem.atCode | apply Mem.atList
  case h => repeat' (first | (with_reducible exact O) | (with_reducible apply Mem.drew) | (with_reducible apply Mem.drewN) | (with_reducible apply Mem.ext) | (with_reducible apply Mem.alloc) | (with_reducible apply Mem.setCell) | (simp only [ptb, ptb_upd, foots_cons, List.mem_cons, World.size_alloc, size_ext, World.size_setCell, true_or, or_true, eq_self_iff_true]))
  case' k =>
    intro w5 O'
    (try clear O)
    have O := O'
    clear O'
    (first | simp only [sel, rst, List.cons_append, List.nil_append, World.size_alloc, size_ext, World.size_setCell, size_setMap, World.size_drew, size_drewN, upd, List.set_cons_zero, List.set_cons_succ, if_true, if_false, reduceIte, not_false_eq_true, ne_lt0, ne_lt1, ne_lt2, ne_lt3, ne_lt4, cs] at O | simp only [sel, rst, List.cons_append, List.nil_append, World.size_alloc, size_ext, World.size_setCell, size_setMap, World.size_drew, size_drewN, upd, List.set_cons_zero, List.set_cons_succ, if_true, if_false, reduceIte, not_false_eq_true, ne_lt0, ne_lt1, ne_lt2, ne_lt3, ne_lt4] at O | skip)
    (try clear cs)
    (try clear v1)
    (try clear v2)
    (try clear v3)
  refine (r_Sum _ 0#32 Az cz (four4 l.length) (Mem.rd (c := cz) O (by simp)) (by simp [four4])).mono ?_
  rintro e w6 ⟨rfl, o⟩
  replace O := O.callp [] o
  clear o
  simp only [put, List.cons_append, List.nil_append] at O
  have cs := O.facts
  simp only [factsP, cellsP, roomP, foots_cons, foots_nil, foots_append, foot_pt, ptb, ptb_mapA, foot_mapA, factsP_mapA, foot_bun, List.append_nil, List.nil_append, List.cons_append, List.nodup_cons, List.nodup_nil, List.mem_cons, List.not_mem_nil, List.mem_singleton, List.forall_mem_cons, not_or, not_false_eq_true, and_true, true_and, or_false, false_or, forall_eq_or_imp, forall_eq, implies_true, Nat.zero_add, Nat.reduceAdd, and_assoc, ptb_listA, factsP_listA, Nat.mul_one, rdL] at cs
  go_wp2_with fail
  first | apply Mem.atCall | apply Mem.atCode | apply Mem.atList
  case h => repeat' (first | (with_reducible exact O) | (with_reducible apply Mem.drew) | (with_reducible apply Mem.drewN) | (with_reducible apply Mem.ext) | (with_reducible apply Mem.alloc) | (with_reducible apply Mem.setCell) | (simp only [ptb, ptb_upd, foots_cons, List.mem_cons, World.size_alloc, size_ext, World.size_setCell, true_or, or_true, eq_self_iff_true]))
  case' k =>
    intro w7 O'
    (try clear O)
    have O := O'
    clear O'
    (first | simp only [sel, rst, List.cons_append, List.nil_append, World.size_alloc, size_ext, World.size_setCell, size_setMap, World.size_drew, size_drewN, upd, List.set_cons_zero, List.set_cons_succ, if_true, if_false, reduceIte, not_false_eq_true, ne_lt0, ne_lt1, ne_lt2, ne_lt3, ne_lt4, cs] at O | simp only [sel, rst, List.cons_append, List.nil_append, World.size_alloc, size_ext, World.size_setCell, size_setMap, World.size_drew, size_drewN, upd, List.set_cons_zero, List.set_cons_succ, if_true, if_false, reduceIte, not_false_eq_true, ne_lt0, ne_lt1, ne_lt2, ne_lt3, ne_lt4] at O | skip)
    (try clear cs)
    (try clear v1)
    (try clear v2)
    (try clear v3)
  refine (r_Sum _ (crc 0#32 (four4 l.length)) A c l (H.out.fr O.fr) (by omega)).mono ?_
  rintro e w8 ⟨rfl, o⟩
  replace O := O.callp [] o
  clear o
  simp only [put, List.cons_append, List.nil_append] at O
  have cs := O.facts
  simp only [factsP, cellsP, roomP, foots_cons, foots_nil, foots_append, foot_pt, ptb, ptb_mapA, foot_mapA, factsP_mapA, foot_bun, List.append_nil, List.nil_append, List.cons_append, List.nodup_cons, List.nodup_nil, List.mem_cons, List.not_mem_nil, List.mem_singleton, List.forall_mem_cons, not_or, not_false_eq_true, and_true, true_and, or_false, false_or, forall_eq_or_imp, forall_eq, implies_true, Nat.zero_add, Nat.reduceAdd, and_assoc, ptb_listA, factsP_listA, Nat.mul_one, rdL] at cs
  go_wp2_with fail
  first | apply Mem.atCall | apply Mem.atCode | apply Mem.atList
  case h => repeat' (first | (with_reducible exact O) | (with_reducible apply Mem.drew) | (with_reducible apply Mem.drewN) | (with_reducible apply Mem.ext) | (with_reducible apply Mem.alloc) | (with_reducible apply Mem.setCell) | (simp only [ptb, ptb_upd, foots_cons, List.mem_cons, World.size_alloc, size_ext, World.size_setCell, true_or, or_true, eq_self_iff_true]))
  case' k =>
    intro w9 O'
    (try clear O)
    have O := O'
    clear O'
    (first | simp only [sel, rst, List.cons_append, List.nil_append, World.size_alloc, size_ext, World.size_setCell, size_setMap, World.size_drew, size_drewN, upd, List.set_cons_zero, List.set_cons_succ, if_true, if_false, reduceIte, not_false_eq_true, ne_lt0, ne_lt1, ne_lt2, ne_lt3, ne_lt4, cs] at O | simp only [sel, rst, List.cons_append, List.nil_append, World.size_alloc, size_ext, World.size_setCell, size_setMap, World.size_drew, size_drewN, upd, List.set_cons_zero, List.set_cons_succ, if_true, if_false, reduceIte, not_false_eq_true, ne_lt0, ne_lt1, ne_lt2, ne_lt3, ne_lt4] at O | skip)
    (try clear cs)
    (try clear v1)
    (try clear v2)
    (try clear v3)
  refine (r_four _ (sumP (four4 l.length) l) (sumP_lt _ _)).mono ?_
  rintro e wa ⟨As, cs', rfl, o⟩
  replace O := O.callp [] o
  clear o
  simp only [put, List.cons_append, List.nil_append] at O
  have cs := O.facts
  simp only [factsP, cellsP, roomP, foots_cons, foots_nil, foots_append, foot_pt, ptb, ptb_mapA, foot_mapA, factsP_mapA, foot_bun, List.append_nil, List.nil_append, List.cons_append, List.nodup_cons, List.nodup_nil, List.mem_cons, List.not_mem_nil, List.mem_singleton, List.forall_mem_cons, not_or, not_false_eq_true, and_true, true_and, or_false, false_or, forall_eq_or_imp, forall_eq, implies_true, Nat.zero_add, Nat.reduceAdd, and_assoc, ptb_listA, factsP_listA, Nat.mul_one, rdL] at cs
  go_upto_region 7 with ((at_builtin; refine byteTy.wl_app (O.front1 [false, true] rfl) rfl rfl rfl rfl (four4 (sumP (four4 l.length) l)) rfl rfl ((Mem.rd (c := cs') O (by simp)).src) (by simp [four4]) ?_; intro A2 c2 wb O4))
  clear O
  have O := O4
  clear O4
  have cs := O.facts
  simp only [factsP, cellsP, roomP, foots_cons, foots_nil, foots_append, foot_pt, ptb, ptb_mapA, foot_mapA, factsP_mapA, foot_bun, List.append_nil, List.nil_append, List.cons_append, List.nodup_cons, List.nodup_nil, List.mem_cons, List.not_mem_nil, List.mem_singleton, List.forall_mem_cons, not_or, not_false_eq_true, and_true, true_and, or_false, false_or, forall_eq_or_imp, forall_eq, implies_true, Nat.zero_add, Nat.reduceAdd, and_assoc, ptb_listA, factsP_listA, Nat.mul_one, rdL] at cs
  go_wp2_with ((at_builtin; refine byteTy.wl_app O rfl rfl rfl rfl l rfl rfl ((H.out.fr O.fr).src) (by simp [four4]; omega) ?_; intro A3 c3 wc O4))
  have hwl : 84 :: 78 :: four4 l.length ++ four4 (sumP (four4 l.length) l) ++ l = wrapP l := by simp [wrapP]
  have O5 := O4.sel [true]
  simp only [sel] at O5
  have e2 : (wrapP l).length = l.length + 10 := wrapP_len l
  rw [hwl] at O5
  refine bodyPost_ret (v := .tuple #[.slice A3 (wrapP l).length c3, .bool true]) ?_ rfl ⟨A3, c3, rfl, O5⟩
  rw [← hwl]
  simp [results, Try.results12, go_sem]
set_option maxRecDepth 100000 in
set_option maxHeartbeats 8000000 in
theorem r_Unwrap (w : World) (A : Option Addr) (c : Nat) (l : List UInt8) (h : Rd w A l) (hc : l.length ≤ c) (hl : l.length ≤ 1048576) :
    Calls Try.prog 13 #[.slice A l.length c] w (fun e w' => ∃ A' c', e = .returned (.tuple #[.slice A' ((unwrapP l).1.getD []).length c', .int .i64 (unwrapP l).2]) ∧ Mem w [] w' [bytesA A' c' ((unwrapP l).1.getD [])]) := by
  have O : Mem w [] w [] := Mem.begin
  obtain ⟨v, hv⟩ : ∃ v, v = unwrapP l := ⟨_, rfl⟩
  rw [← hv]
  have HV := Lib.hid hv
  clear hv
  rcases Nat.lt_or_ge l.length 10 with h10 | h10
  · have hv := HV.out
    unfold unwrapP at hv
    rw [if_pos h10] at hv
    subst hv
    have h10i : (l.length : Int) < 10 := by omega
    clear HV h10
    go_enter Try.func13, Try.ntmps13
    have cs := O.facts
    simp only [factsP, cellsP, roomP, foots_cons, foots_nil, foots_append, foot_pt, ptb, ptb_mapA, foot_mapA, factsP_mapA, foot_bun, List.append_nil, List.nil_append, List.cons_append, List.nodup_cons, List.nodup_nil, List.mem_cons, List.not_mem_nil, List.mem_singleton, List.forall_mem_cons, not_or, not_false_eq_true, and_true, true_and, or_false, false_or, forall_eq_or_imp, forall_eq, implies_true, Nat.zero_add, Nat.reduceAdd, and_assoc, ptb_listA, factsP_listA, Nat.mul_one, rdL] at cs
    go_wp2_with fail
    go_ret2
    exact ⟨none, 0, rfl, O.listNil⟩
  · obtain ⟨b, off, rfl, hb⟩ := h.addr (by omega)
    obtain ⟨x0, e0⟩ : ∃ x, l[0]? = some x := ⟨_, List.getElem?_eq_getElem (by omega)⟩
    obtain ⟨x1, e1⟩ : ∃ x, l[1]? = some x := ⟨_, List.getElem?_eq_getElem (by omega)⟩
    have hd0 : l.getD 0 0 = x0 := by rw [List.getD_eq_getElem?_getD, e0]; rfl
    have hd1 : l.getD 1 0 = x1 := by rw [List.getD_eq_getElem?_getD, e1]; rfl
    have V := Lib.hid (fun W (hW : Fr [] w W) => And.intro (roomP_of (Nat.lt_of_lt_of_le hb hW.size)) (And.intro ((h.fr hW).at_ e0) ((h.fr hW).at_ e1)))
    simp only [Nat.add_zero] at V
    have H10 := Lib.hid h10
    have HD := Lib.hid (And.intro hd0 hd1)
    have lt10 : (10 : Int) ≤ l.length := by omega
    have lt6 : (6 : Int) ≤ l.length := by omega
    have lt0 : (0 : Int) < l.length := by omega
    have lt1 : (1 : Int) < l.length := by omega
    have c6 : (6 : Int) ≤ c := by omega
    have c10 : (10 : Int) ≤ c := by omega
    have lt26 : (2 : Int) ≤ 6 := by omega
    have lt610 : (6 : Int) ≤ 10 := by omega
    have nc2 : ¬ (c = 2) := by omega
    have nc6 : ¬ (c = 6) := by omega
    have HB := Lib.hid hb
    clear e0 e1 hd0 hd1 hb
    -- the callees
    have n26 : 4 = ((l.drop 2).take 4).length := by simp; omega
    have n610 : 4 = ((l.drop 6).take 4).length := by simp; omega
    have hn1 : num4 ((l.drop 2).take 4) = num4 (l.drop 2) := num4_congr (fun i hi => by rw [List.getElem?_take, if_pos hi])
    have hn2 : num4 ((l.drop 6).take 4) = num4 (l.drop 6) := num4_congr (fun i hi => by rw [List.getElem?_take, if_pos hi])
    have S0 := fun W (hW : Fr [] w W) => r_number W (some ⟨b, off + 2, none⟩) (c - 2) ((l.drop 2).take 4) (((h.drop 2).take 4).fr hW) (by omega)
    have S1 := fun W (hW : Fr [] w W) => r_Sum W 0#32 (some ⟨b, off + 2, none⟩) (c - 2) ((l.drop 2).take 4) (((h.drop 2).take 4).fr hW) (by omega)
    have S3 := fun W (hW : Fr [] w W) => r_number W (some ⟨b, off + 6, none⟩) (c - 6) ((l.drop 6).take 4) (((h.drop 6).take 4).fr hW) (by omega)
    rw [← n26, hn1] at S0
    rw [← n26] at S1
    rw [← n610, hn2] at S3
    have H0 := Lib.hid S0
    have H1 := Lib.hid S1
    have H3 := Lib.hid S3
    clear S0 S1 S3 n26 n610 hn1 hn2
    by_cases hm : x0 ≠ 84 ∨ x1 ≠ 78
    · have hv := HV.out
      have hf : faultP l = (0, 32) := by
        unfold faultP
        rw [HD.out.1, HD.out.2]
        rw [if_pos]
        rcases hm with hm | hm
        · exact .inl ⟨by have := H10.out; omega, hm⟩
        · exact .inr ⟨by have := H10.out; omega, hm⟩
      unfold unwrapP at hv
      rw [if_neg (by have := H10.out; omega), hf] at hv
      simp at hv
      subst hv
      have hcs : (¬ ((x0.toNat : Int) = 84)) ∨ (x0 = 84 ∧ ¬ ((x1.toNat : Int) = 78)) := by
        by_cases a : x0 = 84
        · exact .inr ⟨a, byte_ne (hm.resolve_left (fun h => h a))⟩
        · exact .inl (byte_ne a)
      have HCS := Lib.hid hcs
      clear hcs hm hf HV h h10
      skip
      rcases HCS.out with a | ⟨rfl, a⟩
      all_goals
        clear HCS
        try (have a2 : ((x1.toNat : Int) == 78) = false := by simpa using a)
        try (have a3 : ((x1.toNat : Int) != 78) = true := by simpa using a)
        try (have a2 : ((x0.toNat : Int) == 84) = false := by simpa using a)
        try (have a3 : ((x0.toNat : Int) != 84) = true := by simpa using a)
        go_enter Try.func13, Try.ntmps13
        have cs := O.facts
        simp only [factsP, cellsP, roomP, foots_cons, foots_nil, foots_append, foot_pt, ptb, ptb_mapA, foot_mapA, factsP_mapA, foot_bun, List.append_nil, List.nil_append, List.cons_append, List.nodup_cons, List.nodup_nil, List.mem_cons, List.not_mem_nil, List.mem_singleton, List.forall_mem_cons, not_or, not_false_eq_true, and_true, true_and, or_false, false_or, forall_eq_or_imp, forall_eq, implies_true, Nat.zero_add, Nat.reduceAdd, and_assoc, ptb_listA, factsP_listA, Nat.mul_one, rdL] at cs
        have v1 := V.out _ O.fr
        simp only [roomP, and_assoc] at v1
        go_wp2_with fail
        go_ret2
        exact ⟨none, 0, rfl, O.listNil⟩
    · obtain ⟨rfl, rfl⟩ : x0 = 84 ∧ x1 = 78 := by
        constructor <;> (apply Classical.byContradiction; intro h'; exact hm (by simp [h']))
      have hfa : faultP l = if 65536 < num4 (l.drop 2) then (0, 31) else (num4 (l.drop 2) + 10, 0) := by
        unfold faultP
        rw [HD.out.1, HD.out.2, if_neg (by simp), if_neg (by have := H10.out; omega)]
      have hnl := num4_lt (l.drop 2)
      obtain ⟨N, hN⟩ : ∃ N : Int, N = (num4 (l.drop 2) : Int) := ⟨_, rfl⟩
      rw [← hN] at H0
      have hN0 : 0 ≤ N := by omega
      have hN1 : N < 4294967296 := by omega
      have HN := Lib.hid hN
      have HFA := Lib.hid hfa
      clear hm hfa hnl hN
      have hv := HV.out
      unfold unwrapP at hv
      rw [if_neg (by have := H10.out; omega)] at hv
      have HV2 := Lib.hid hv
      clear HV hv h10
      skip
      go_enter Try.func13, Try.ntmps13
      have cs := O.facts
      simp only [factsP, cellsP, roomP, foots_cons, foots_nil, foots_append, foot_pt, ptb, ptb_mapA, foot_mapA, factsP_mapA, foot_bun, List.append_nil, List.nil_append, List.cons_append, List.nodup_cons, List.nodup_nil, List.mem_cons, List.not_mem_nil, List.mem_singleton, List.forall_mem_cons, not_or, not_false_eq_true, and_true, true_and, or_false, false_or, forall_eq_or_imp, forall_eq, implies_true, Nat.zero_add, Nat.reduceAdd, and_assoc, ptb_listA, factsP_listA, Nat.mul_one, rdL] at cs
      have v1 := V.out _ O.fr
      simp only [roomP, and_assoc] at v1
      go_wp2_with fail
      first | apply Mem.atCall | apply Mem.atCode | apply Mem.atList
      case h => repeat' (first | (with_reducible exact O) | (with_reducible apply Mem.drew) | (with_reducible apply Mem.drewN) | (with_reducible apply Mem.ext) | (with_reducible apply Mem.alloc) | (with_reducible apply Mem.setCell) | (simp only [ptb, ptb_upd, foots_cons, List.mem_cons, World.size_alloc, size_ext, World.size_setCell, true_or, or_true, eq_self_iff_true]))
      case' k =>
        intro w1 O'
        (try clear O)
        have O := O'
        clear O'
        (first | simp only [sel, rst, List.cons_append, List.nil_append, World.size_alloc, size_ext, World.size_setCell, size_setMap, World.size_drew, size_drewN, upd, List.set_cons_zero, List.set_cons_succ, if_true, if_false, reduceIte, not_false_eq_true, ne_lt0, ne_lt1, ne_lt2, ne_lt3, ne_lt4, cs] at O | simp only [sel, rst, List.cons_append, List.nil_append, World.size_alloc, size_ext, World.size_setCell, size_setMap, World.size_drew, size_drewN, upd, List.set_cons_zero, List.set_cons_succ, if_true, if_false, reduceIte, not_false_eq_true, ne_lt0, ne_lt1, ne_lt2, ne_lt3, ne_lt4] at O | skip)
        (try clear cs)
        (try clear v1)
        (try clear v2)
        (try clear v3)
      refine (H0.out _ O.fr).mono ?_
      rintro e w2 ⟨rfl, o⟩
      replace O := O.callp [] o
      clear o
      simp only [put, List.cons_append, List.nil_append] at O
      clear H0
      by_cases hbig : 65536 < N
      · have hv := HV2.out
        have hf : faultP l = (0, 31) := by rw [HFA.out, if_pos (by have := HN.out; omega)]
        rw [hf] at hv
        simp at hv
        subst hv
        clear hf
        have cs := O.facts
        simp only [factsP, cellsP, roomP, foots_cons, foots_nil, foots_append, foot_pt, ptb, ptb_mapA, foot_mapA, factsP_mapA, foot_bun, List.append_nil, List.nil_append, List.cons_append, List.nodup_cons, List.nodup_nil, List.mem_cons, List.not_mem_nil, List.mem_singleton, List.forall_mem_cons, not_or, not_false_eq_true, and_true, true_and, or_false, false_or, forall_eq_or_imp, forall_eq, implies_true, Nat.zero_add, Nat.reduceAdd, and_assoc, ptb_listA, factsP_listA, Nat.mul_one, rdL] at cs
        have v1 := V.out _ O.fr
        simp only [roomP, and_assoc] at v1
        go_wp2_with fail
        go_ret2
        exact ⟨none, 0, rfl, O.listNil⟩
      · have hv := HV2.out
        have hf : faultP l = (num4 (l.drop 2) + 10, 0) := by rw [HFA.out, if_neg (by have := HN.out; omega)]
        rw [hf] at hv
        simp only [ne_eq, not_true_eq_false, if_false] at hv
        clear hf
        have HV3 := Lib.hid hv
        clear HV2 hv
        have hw1 : IntKind.i64.wrap N = N := by simp [IntKind.wrap, IntKind.signed, IntKind.bits]; omega
        have hbig2 : N ≤ 65536 := by omega
        clear hbig
        by_cases hs : l.length = num4 (l.drop 2) + 10
        · have hsi : (l.length : Int) = N + 10 := by have := HN.out; omega
          have hv := HV3.out
          rw [if_neg (by simpa using hs)] at hv
          have HV4 := Lib.hid hv
          clear HV3 hv
          have hq : ((l.length : Int) == N + 10) = true := by simp [hsi]
          have hq2 : ((l.length : Int) != N + 10) = false := by simp [hsi]
          have hq3 : ((l.length : Int) = N + 10) = True := by simp [hsi]
          have HS := Lib.hid hsi
          clear hsi hs
          have HR := Lib.hid h
          clear hq hq2 hq3 H10 lt26 h
          have hq : ((l.length : Int) == N + 10) = true := by have := HS.out; simp [this]
          have hq3 : ((l.length : Int) = N + 10) = True := by have := HS.out; simp [this]
          have cs := O.facts
          simp only [factsP, cellsP, roomP, foots_cons, foots_nil, foots_append, foot_pt, ptb, ptb_mapA, foot_mapA, factsP_mapA, foot_bun, List.append_nil, List.nil_append, List.cons_append, List.nodup_cons, List.nodup_nil, List.mem_cons, List.not_mem_nil, List.mem_singleton, List.forall_mem_cons, not_or, not_false_eq_true, and_true, true_and, or_false, false_or, forall_eq_or_imp, forall_eq, implies_true, Nat.zero_add, Nat.reduceAdd, and_assoc, ptb_listA, factsP_listA, Nat.mul_one, rdL] at cs
          have v1 := V.out _ O.fr
          simp only [roomP, and_assoc] at v1
          go_upto_region 8 with fail
          clear hq hq3
          have hA10 : ∃ A10, ((c = 10 ∧ some (⟨b, off, none⟩ : Addr) = A10) ∨ (¬ c = 10 ∧ some (⟨b, off + 10, none⟩ : Addr) = A10)) ∧ Rd w A10 (l.drop 10) := by
            by_cases hc10 : c = 10
            · refine ⟨_, .inl ⟨hc10, rfl⟩, ?_⟩
              rw [List.drop_eq_nil_of_le (by omega)]
              exact Rd.nil
            · exact ⟨_, .inr ⟨hc10, rfl⟩, HR.out.drop 10⟩
          obtain ⟨A10, hA, hR10⟩ := hA10
          have n10 : l.length - 10 = (l.drop 10).length := by simp
          have S2 := fun W (hW : Fr [] w W) => r_Sum W (crc 0#32 ((l.drop 2).take 4)) A10 (c - 10) (l.drop 10) (hR10.fr hW) (by simp; omega)
          rw [← n10] at S2
          have HR10 := Lib.hid hR10
          have N10 := Lib.hid n10
          have hv := HV4.out
          unfold bodyP sumP at hv
          generalize crc 0#32 ((l.drop 2).take 4) = y1 at *
          generalize crc y1 (l.drop 10) = y2 at *
          generalize num4 (l.drop 6) = N6 at *
          have HV5 := Lib.hid hv
          simp only [w32] at S2 H1
          rw [show (((0#32).toNat : Nat) : Int) = 0 from rfl] at H1
          have H2 := Lib.hid S2
          have HX := Lib.hid hA
          clear S2 hA hv HV4 n10 hR10
          skip
          by_cases hq : y2.toNat = N6
          · have hv := HV5.out
            rw [if_pos hq] at hv
            subst hv hq
            rcases HX.out with ⟨rfl, rfl⟩ | ⟨hc10, rfl⟩
            all_goals
              clear HX HV5 hc
              try simp only [Nat.reduceSub] at H1 H2 H3
              apply region_quiet_mem (by kernel_rfl) (by kernel_rfl)
              case O => repeat' (first | (with_reducible exact O) | (with_reducible apply Mem.drew) | (with_reducible apply Mem.drewN) | (with_reducible apply Mem.ext) | (with_reducible apply Mem.alloc) | (with_reducible apply Mem.setCell) | (simp only [ptb, ptb_upd, foots_cons, List.mem_cons, World.size_alloc, size_ext, World.size_setCell, true_or, or_true, eq_self_iff_true]))
              case' h =>
                intro w3 O'
                (try clear O)
                have O := O'
                clear O'
                (first | simp only [sel, rst, List.cons_append, List.nil_append, World.size_alloc, size_ext, World.size_setCell, size_setMap, World.size_drew, size_drewN, upd, List.set_cons_zero, List.set_cons_succ, if_true, if_false, reduceIte, not_false_eq_true, ne_lt0, ne_lt1, ne_lt2, ne_lt3, ne_lt4, cs] at O | simp only [sel, rst, List.cons_append, List.nil_append, World.size_alloc, size_ext, World.size_setCell, size_setMap, World.size_drew, size_drewN, upd, List.set_cons_zero, List.set_cons_succ, if_true, if_false, reduceIte, not_false_eq_true, ne_lt0, ne_lt1, ne_lt2, ne_lt3, ne_lt4] at O | skip)
                (try clear cs)
                (try clear v1)
                (try clear v2)
                (try clear v3)
              have cs := O.facts
              simp only [factsP, cellsP, roomP, foots_cons, foots_nil, foots_append, foot_pt, ptb, ptb_mapA, foot_mapA, factsP_mapA, foot_bun, List.append_nil, List.nil_append, List.cons_append, List.nodup_cons, List.nodup_nil, List.mem_cons, List.not_mem_nil, List.mem_singleton, List.forall_mem_cons, not_or, not_false_eq_true, and_true, true_and, or_false, false_or, forall_eq_or_imp, forall_eq, implies_true, Nat.zero_add, Nat.reduceAdd, and_assoc, ptb_listA, factsP_listA, Nat.mul_one, rdL] at cs
              repeat (go_big_quiet_step ((first | (go_at_call 17; with_reducible exact qMem (H1.out _ (O.ext).fr)) | (go_at_call 17; with_reducible exact qMem (H2.out _ (O.ext).fr)) | (go_at_call 29; with_reducible exact qMem (H3.out _ (O.ext).fr)))))
              refine wpQuiet_nil ?_
              intro w4 hq
              (try clear cs)
              (try clear v1)
              (try clear v2)
              (try clear v3)
              replace O := O.qext hq
              clear hq
              have cs := O.facts
              simp only [factsP, cellsP, roomP, foots_cons, foots_nil, foots_append, foot_pt, ptb, ptb_mapA, foot_mapA, factsP_mapA, foot_bun, List.append_nil, List.nil_append, List.cons_append, List.nodup_cons, List.nodup_nil, List.mem_cons, List.not_mem_nil, List.mem_singleton, List.forall_mem_cons, not_or, not_false_eq_true, and_true, true_and, or_false, false_or, forall_eq_or_imp, forall_eq, implies_true, Nat.zero_add, Nat.reduceAdd, and_assoc, ptb_listA, factsP_listA, Nat.mul_one, rdL] at cs
              go_wp2_with ((at_builtin; refine byteTy.wl_app (ptList (cs := byteCells) (l := []) (fun _ => rfl) (O.alloc [] 5) (by simp)) rfl rfl rfl rfl (l.drop 10) N10.out.symm rfl (by rw [N10.out]; exact (HR10.out.fr (O.alloc [] 5).fr).src) (by simp; omega) ?_; intro A1 c1 w5 O4))
              go_ret2
              exact ⟨A1, c1, by simp, by simpa using O4.sub (List.Sublist.refl _)⟩
          · have hv := HV5.out
            rw [if_neg hq] at hv
            subst hv
            have hq2 : ((y2.toNat : Int) == (N6 : Int)) = false := by simp; omega
            have hq3 : ¬ ((y2.toNat : Int) = (N6 : Int)) := by omega
            clear hq
            rcases HX.out with ⟨rfl, rfl⟩ | ⟨hc10, rfl⟩
            all_goals
              clear HX HV5 hc
              try simp only [Nat.reduceSub] at H1 H2 H3
              apply region_quiet_mem (by kernel_rfl) (by kernel_rfl)
              case O => repeat' (first | (with_reducible exact O) | (with_reducible apply Mem.drew) | (with_reducible apply Mem.drewN) | (with_reducible apply Mem.ext) | (with_reducible apply Mem.alloc) | (with_reducible apply Mem.setCell) | (simp only [ptb, ptb_upd, foots_cons, List.mem_cons, World.size_alloc, size_ext, World.size_setCell, true_or, or_true, eq_self_iff_true]))
              case' h =>
                intro w3 O'
                (try clear O)
                have O := O'
                clear O'
                (first | simp only [sel, rst, List.cons_append, List.nil_append, World.size_alloc, size_ext, World.size_setCell, size_setMap, World.size_drew, size_drewN, upd, List.set_cons_zero, List.set_cons_succ, if_true, if_false, reduceIte, not_false_eq_true, ne_lt0, ne_lt1, ne_lt2, ne_lt3, ne_lt4, cs] at O | simp only [sel, rst, List.cons_append, List.nil_append, World.size_alloc, size_ext, World.size_setCell, size_setMap, World.size_drew, size_drewN, upd, List.set_cons_zero, List.set_cons_succ, if_true, if_false, reduceIte, not_false_eq_true, ne_lt0, ne_lt1, ne_lt2, ne_lt3, ne_lt4] at O | skip)
                (try clear cs)
                (try clear v1)
                (try clear v2)
                (try clear v3)
              have cs := O.facts
              simp only [factsP, cellsP, roomP, foots_cons, foots_nil, foots_append, foot_pt, ptb, ptb_mapA, foot_mapA, factsP_mapA, foot_bun, List.append_nil, List.nil_append, List.cons_append, List.nodup_cons, List.nodup_nil, List.mem_cons, List.not_mem_nil, List.mem_singleton, List.forall_mem_cons, not_or, not_false_eq_true, and_true, true_and, or_false, false_or, forall_eq_or_imp, forall_eq, implies_true, Nat.zero_add, Nat.reduceAdd, and_assoc, ptb_listA, factsP_listA, Nat.mul_one, rdL] at cs
              repeat (go_big_quiet_step ((first | (go_at_call 17; with_reducible exact qMem (H1.out _ (O.ext).fr)) | (go_at_call 17; with_reducible exact qMem (H2.out _ (O.ext).fr)) | (go_at_call 29; with_reducible exact qMem (H3.out _ (O.ext).fr)))))
              refine wpQuiet_nil ?_
              intro w4 hq
              (try clear cs)
              (try clear v1)
              (try clear v2)
              (try clear v3)
              replace O := O.qext hq
              clear hq
              have cs := O.facts
              simp only [factsP, cellsP, roomP, foots_cons, foots_nil, foots_append, foot_pt, ptb, ptb_mapA, foot_mapA, factsP_mapA, foot_bun, List.append_nil, List.nil_append, List.cons_append, List.nodup_cons, List.nodup_nil, List.mem_cons, List.not_mem_nil, List.mem_singleton, List.forall_mem_cons, not_or, not_false_eq_true, and_true, true_and, or_false, false_or, forall_eq_or_imp, forall_eq, implies_true, Nat.zero_add, Nat.reduceAdd, and_assoc, ptb_listA, factsP_listA, Nat.mul_one, rdL] at cs
              go_wp2_with fail
              go_ret2
              exact ⟨none, 0, rfl, O.listNil⟩
        · have hq : ((l.length : Int) == N + 10) = false := by have := HN.out; simp; omega
          have hq3 : ¬ ((l.length : Int) = N + 10) := by have := HN.out; omega
          have hv := HV3.out
          rw [if_pos (by simpa using hs)] at hv
          subst hv
          clear hs HV3
          have cs := O.facts
          simp only [factsP, cellsP, roomP, foots_cons, foots_nil, foots_append, foot_pt, ptb, ptb_mapA, foot_mapA, factsP_mapA, foot_bun, List.append_nil, List.nil_append, List.cons_append, List.nodup_cons, List.nodup_nil, List.mem_cons, List.not_mem_nil, List.mem_singleton, List.forall_mem_cons, not_or, not_false_eq_true, and_true, true_and, or_false, false_or, forall_eq_or_imp, forall_eq, implies_true, Nat.zero_add, Nat.reduceAdd, and_assoc, ptb_listA, factsP_listA, Nat.mul_one, rdL] at cs
          go_wp2_with fail
          go_ret2
          exact ⟨none, 0, rfl, O.listNil⟩
end Go.Proofs.Ytomcahmgmmbmmaa
