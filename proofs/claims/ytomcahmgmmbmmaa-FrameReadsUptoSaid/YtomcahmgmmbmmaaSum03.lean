/- WALK: the sum of a frame. -/
import Derived.Test.YtomcahmgmmbmmaaCrc03
set_option linter.unusedVariables false
set_option linter.unusedSimpArgs false
namespace Go.Proofs.Ytomcahmgmmbmmaa
open Go.RowKit Go.Tk
set_option maxRecDepth 100000 in
set_option maxHeartbeats 4000000 in
theorem fr_Sum (w : World) (r : BitVec 32) (A : Option Addr) (c : Nat) (l : List UInt8) (h : Rd w A l) (hl : l.length ≤ 2000000) :
    Calls Try.prog 16 #[w32 r, .slice A l.length c] w (fun e w' => e = .returned (w32 (crc r l)) ∧ Mem w [] w' []) := by
  have O : Mem w [] w [] := Mem.begin
  obtain ⟨v, hv⟩ : ∃ v, v = crc r l := ⟨_, rfl⟩
  rw [← hv]
  have HV := Lib.hid hv
  clear hv
  simp only [w32]
  have H := Lib.hid h
  clear h
  have hsg : IntKind.u32.signed = false := rfl
  go_enter Try.func16, Try.ntmps16
  have cs := O.facts
  simp only [factsP, cellsP, roomP, foots_cons, foots_nil, foots_append, foot_pt, ptb, ptb_mapA, foot_mapA, factsP_mapA, foot_bun, List.append_nil, List.nil_append, List.cons_append, List.nodup_cons, List.nodup_nil, List.mem_cons, List.not_mem_nil, List.mem_singleton, List.forall_mem_cons, not_or, not_false_eq_true, and_true, true_and, or_false, false_or, forall_eq_or_imp, forall_eq, implies_true, Nat.zero_add, Nat.reduceAdd, and_assoc] at cs
  go_wp2_with fail
  go_loopw [5, 12] (fun s5 s12 wr => ∃ (k : Nat) (x : BitVec 32), k ≤ l.length ∧ s12 = .int .i64 k ∧ s5 = .int .u32 (x.toNat : Int) ∧ Mem w [] wr [] ∧ Hid (x = rawP (~~~ r) (l.take k))) (fun _ s12 _ => l.length - (intOf s12).toNat)
  case atStart =>
    refine ⟨0, ~~~ r, by omega, rfl, ?_, O, Lib.hid rfl⟩
    rw [not_int]
  case round =>
    clear O
    obtain ⟨k, x, hk, rfl, rfl, O, HX⟩ := hrel
    by_cases hlt : k < l.length
    · obtain ⟨y, hy⟩ : ∃ y, l[k]? = some y := ⟨_, List.getElem?_eq_getElem hlt⟩
      have htk : l.take (k + 1) = l.take k ++ [y] := by rw [List.take_succ_eq_append_getElem hlt, (List.getElem?_eq_some_iff.1 hy).2]
      have HTK := Lib.hid htk
      obtain ⟨b, off, rfl, hb⟩ := H.out.addr (by omega)
      have V := Lib.hid (fun W (h : Fr [] w W) => (H.out.fr h).at_ hy)
      clear hy htk
      have cs := V.out _ O.fr
      go_wp2_with fail
      clear cs
      go_loopw [5, 20] (fun s5 s20 wr => ∃ (j : Nat), j ≤ 8 ∧ s20 = .int .i64 j ∧ s5 = .int .u32 ((iterP j (inB x y)).toNat : Int) ∧ Mem w [] wr []) (fun _ s20 _ => 8 - (intOf s20).toNat)
      case atStart => exact ⟨0, by omega, rfl, by rw [in_int]; rfl, O⟩
      case round =>
        clear O
        obtain ⟨j, hj, rfl, rfl, O⟩ := hrel
        have hs : iterP (j + 1) (inB x y) = stepP (iterP j (inB x y)) := rfl
        have HS := Lib.hid hs
        clear hs
        by_cases hjt : j < 8
        · generalize iterP j (inB x y) = z at *
          go_wp2_with fail
          go_roundw
          case rel => exact ⟨j + 1, by omega, by go_num, by rw [step_int, HS.out], O⟩
          case measure => simp [intOf]; omega
        · obtain rfl : j = 8 := by omega
          clear HS
          generalize hz : iterP 8 (inB x y) = z at *
          have HZ := Lib.hid hz
          clear hz
          go_wp2_with fail
          go_roundw
          case rel => exact ⟨k + 1, z, by omega, by go_num, rfl, O, Lib.hid (by rw [HTK.out, rawP_snoc, ← HX.out, ← HZ.out]; rfl)⟩
          case measure => simp [intOf]; omega
    · obtain rfl : k = l.length := by omega
      have hx := HX.out
      rw [List.take_length] at hx
      have HX2 := Lib.hid hx
      clear hx HX
      go_wp2_with fail
      go_ret
      refine ⟨?_, O⟩
      show Ending.returned (.int .u32 (bits .xor .u32 IntKind.u32.max (x.toNat : Int))) = _
      rw [not_int, HV.out, HX2.out]
      rfl
end Go.Proofs.Ytomcahmgmmbmmaa
