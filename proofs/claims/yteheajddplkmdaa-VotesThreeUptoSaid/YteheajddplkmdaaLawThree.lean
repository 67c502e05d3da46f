/- PROVED: if two transactions with a bucket in common are both decided to be committed, two replicas of that bucket at least have voted prepared on both (VotesThree): for arguments of bulk at most 1048576, the law returns true, and each argument reads behind the call as it read before. -/
import Derived.Test.YteheajddplkmdaaRead18
import Derived.Test.YteheajddplkmdaaAlive
import Derived.Deep.DeepCutAuto
import Derived.Outline
set_option linter.unusedVariables false
set_option linter.unusedSimpArgs false
namespace Go.Proofs.Yteheajddplkmdaa
open Go.RowKit Go.WideShapes Go.ChangeShapes Go.ChangeAt Go.Tk

/-- how many of the first k are 1 in both -/
def both (f g : Nat → Int) : Nat → Nat
  | 0 => 0
  | k + 1 => both f g k + if f k = 1 ∧ g k = 1 then 1 else 0
theorem both_le (f g : Nat → Int) : ∀ k, both f g k ≤ k
  | 0 => Nat.le_refl _
  | k + 1 => by have := both_le f g k; simp only [both]; split <;> omega
theorem cn_both (f g inc inc' : Nat → Int) : ∀ k, cn f inc 1 k + cn g inc' 1 k ≤ both f g k + k
  | 0 => by simp [cn, both]
  | k + 1 => by
    have := cn_both f g inc inc' k
    simp only [cn, both]
    by_cases h1 : f k = 1 <;> by_cases h2 : g k = 1 <;> simp only [h1, h2, true_and, false_and, if_false, if_true, and_true, and_self] <;> (repeat' split) <;> omega
theorem two_of {fr gr fi gi : Nat → Nat → Int} {n m i k : Nat} (h1 : prep fr fi n = true) (h2 : prep gr gi m = true) (hi : i < n) (hk : k < m) : 2 ≤ both (fr i) (gr k) 4 := by
  unfold prep at h1 h2
  rw [List.all_eq_true] at h1 h2
  have a := h1 i (List.mem_range.2 hi)
  have b := h2 k (List.mem_range.2 hk)
  simp only [decide_eq_true_eq] at a b
  have := cn_both (fr i) (gr k) (fi i) (gi k) 4
  omega
theorem prepared_of {rt : Bool} {n m : Nat} {fr fi : Nat → Nat → Int} (h : decide18 rt n m fr fi = (1, 0)) : n = m ∧ prep fr fi n = true := by
  unfold decide18 at h
  split at h
  · rename_i h1
    refine ⟨h1.2, ?_⟩
    split at h
    · split at h
      · assumption
      · split at h <;> simp at h
    · simp at h
  · simp at h

theorem Ents.below {w w' : World} {v : Value} {l : List (ByteArray × ByteArray)} (hb : Below w.heap.size w w') (h : Ents w v l) : Ents w' v l := by
  obtain ⟨y, rfl⟩ := of_below hb
  exact h.ext
theorem Items.below {w w' : World} {v : Value} {l : List ItemR} (h : Items w v l) (hb : Below w.heap.size w w') : Items w' v l := by
  obtain ⟨y, rfl⟩ := of_below hb
  exact h.ext
theorem Votes.below {w w' : World} {v : Value} {n : Nat} {f : Nat → Nat → Int} (h : Votes w v n f) (hb : Below w.heap.size w w') : Votes w' v n f := by
  obtain ⟨y, rfl⟩ := of_below hb
  exact h.ext

set_option maxRecDepth 100000 in
set_option maxHeartbeats 2000000 in
theorem walkThree (a b : TxR) (x y : Value) (n m : Nat) (fx fy : Nat → Nat → Int) (w : World) (ha : Items w a.data a.items) (wa : WfTx a) (hb : Items w b.data b.items) (wb : WfTx b) (hx : Votes w x n fx) (hy : Votes w y m fy) :
    Calls Try.prog 5 #[.agg #[.int .u64 a.id, .int .i64 a.client, .int .i64 a.m0, .int .i64 a.m1, .int .i64 a.m2, a.data, .int .u64 b.id, .int .i64 b.client, .int .i64 b.m0, .int .i64 b.m1, .int .i64 b.m2, b.data, x, y]] w (Gives w (.bool true)) := by
  have C1 := Lib.hid (fun W (h : Items W a.data a.items) (h' : Votes W x n fx) => votes_Decide a x n fx W h wa h')
  have C2 := Lib.hid (fun W (h : Items W b.data b.items) (h' : Votes W y m fy) => votes_Decide b y m fy W h wb h')
  have P1 := Lib.hid (fun h => prepared_of (rt := a.right) (n := n) (m := a.items.length) (fr := fx) (fi := incsOf a.items) h)
  have P2 := Lib.hid (fun h => prepared_of (rt := b.right) (n := m) (m := b.items.length) (fr := fy) (fi := incsOf b.items) h)
  generalize decide18 a.right n a.items.length fx (incsOf a.items) = d1 at *
  generalize decide18 b.right m b.items.length fy (incsOf b.items) = d2 at *
  obtain ⟨id, client, m0, m1, m2, data, l⟩ := a
  obtain ⟨id', client', m0', m1', m2', data', l'⟩ := b
  unfold TxR.val at *
  simp only at ha hb C1 C2 P1 P2 ⊢
  have HA := Lib.hid ha
  have HB := Lib.hid hb
  have HX := Lib.hid hx
  have HY := Lib.hid hy
  obtain ⟨hl, A, c, rfl, hc⟩ := ha
  obtain ⟨hl', A', c', rfl, hc'⟩ := hb
  obtain ⟨hn, B, d, rfl, hvc⟩ := hx
  obtain ⟨hm, B', d', rfl, hvc'⟩ := hy
  clear hc hc' hvc hvc' wa wb
  obtain ⟨d1v, d1e⟩ := d1
  obtain ⟨d2v, d2e⟩ := d2
  go_enter Try.func5, Try.ntmps5
  go_upto_region 1 with fail
  go_cut [3, 4, 5, 6] (fun s3 s4 s5 s6 wx => ∃ p q : Nat, s3 = .pointer (some ⟨p, 0, none⟩) ∧ s5 = .pointer (some ⟨q, 0, none⟩) ∧ s4 = .slice B n d ∧ s6 = .slice B' m d' ∧ Below w.heap.size w wx ∧
    wx.heap[p]? = some (.cells #[.int .u64 id, .int .i64 client, .int .i64 m0, .int .i64 m1, .int .i64 m2, .slice A l.length c] 26) ∧ wx.heap[q]? = some (.cells #[.int .u64 id', .int .i64 client', .int .i64 m0', .int .i64 m1', .int .i64 m2', .slice A' l'.length c'] 26))
  case first =>
    go_region
    all_goals (go_wp2_with fail; go_meet)
    · exact ⟨_, _, rfl, rfl, rfl, rfl, ((((Below.refl _ _).alloc (Nat.le_refl _) _).alloc (by (try simp only [World.size_alloc, size_ext, World.size_setCell]); omega) _).alloc (by (try simp only [World.size_alloc, size_ext, World.size_setCell]); omega) _).drew, hp_alloc _ (hp_new (by simp)), hp_new (by simp)⟩
    · exact ⟨_, _, rfl, rfl, rfl, rfl, ((((Below.refl _ _).alloc (Nat.le_refl _) _).alloc (by (try simp only [World.size_alloc, size_ext, World.size_setCell]); omega) _).alloc (by (try simp only [World.size_alloc, size_ext, World.size_setCell]); omega) _).drew, hp_new (by simp), hp_alloc _ (hp_new (by simp))⟩
  case rest =>
    obtain ⟨p, q, rfl, rfl, rfl, rfl, hbw, hp, hq⟩ := hcut
    have hp0 := lt_of_heap hp
    have hq0 := lt_of_heap hq
    have pc := fun i => cell_of_heap (i := i) hp
    have qc := fun i => cell_of_heap (i := i) hq
    have a0 := pc 0
    have a1 := pc 1
    have a2 := pc 2
    have a3 := pc 3
    have a4 := pc 4
    have a5 := pc 5
    have b0 := qc 0
    have b1 := qc 1
    have b2 := qc 2
    have b3 := qc 3
    have b4 := qc 4
    have b5 := qc 5
    simp at a0 a1 a2 a3 a4 a5 b0 b1 b2 b3 b4 b5
    have HP := Lib.hid hp
    have HQ := Lib.hid hq
    have hsz := hbw.size
    have IA := Lib.hid (HA.out.below hbw)
    have IB := Lib.hid (HB.out.below hbw)
    have VX := Lib.hid (HX.out.below hbw)
    have VY := Lib.hid (HY.out.below hbw)
    have HBW := Lib.hid hbw
    have hw0 : w.heap.size ≤ wc.heap.size := hsz
    clear hp hq pc qc HA HB HX HY hbw hsz
    go_wp2_with fail
    refine (C1.out _ IA.out VX.out).mono ?_
    rintro e w1 ⟨rfl, y1, rfl⟩
    go_wp2_with fail
    refine (C2.out _ IB.out.ext VY.out.ext).mono ?_
    rintro e w1 ⟨rfl, y2, rfl⟩
    by_cases h0 : d1e = 0
    case neg =>
      have t0 : (d1e != 0) = true := by simp [h0]
      clear h0
      go_wp2_with (go_at_call 11; refine (law_alive _).mono ?_; rintro e w1 ⟨rfl, y3, rfl⟩)
      go_ret
      exact .mk rfl (by simp only [ext_ext]; exact below_of_ext HBW.out hw0)
    subst h0
    by_cases h1 : d2e = 0
    case neg =>
      have t1 : (d2e != 0) = true := by simp [h1]
      clear h1
      go_wp2_with (go_at_call 11; refine (law_alive _).mono ?_; rintro e w1 ⟨rfl, y3, rfl⟩)
      go_ret
      exact .mk rfl (by simp only [ext_ext]; exact below_of_ext HBW.out hw0)
    subst h1
    by_cases h2 : d1v = 1
    case neg =>
      have t2 : (d1v != 1) = true := by simp [h2]
      clear h2
      go_wp2_with (go_at_call 11; refine (law_alive _).mono ?_; rintro e w1 ⟨rfl, y3, rfl⟩)
      go_ret
      exact .mk rfl (by simp only [ext_ext]; exact below_of_ext HBW.out hw0)
    subst h2
    by_cases h3 : d2v = 1
    case neg =>
      have t3 : (d2v != 1) = true := by simp [h3]
      clear h3
      go_wp2_with (go_at_call 11; refine (law_alive _).mono ?_; rintro e w1 ⟨rfl, y3, rfl⟩)
      go_ret
      exact .mk rfl (by simp only [ext_ext]; exact below_of_ext HBW.out hw0)
    subst h3
    obtain ⟨rfl, hprep1⟩ := P1.out rfl
    obtain ⟨rfl, hprep2⟩ := P2.out rfl
    have TWO := Lib.hid (fun i k (hi : i < l.length) (hk : k < l'.length) => two_of hprep1 hprep2 hi hk)
    obtain ⟨q1, q2, q3, q4, q5, q6⟩ := roomy hp0
    obtain ⟨g1, g2, g3, g4, g5, g6⟩ := roomy hq0
    clear hprep1 hprep2 C1 C2 P1 P2
    go_wp2_with fail
    go_loopw [11] (fun i wr => ∃ (k : Nat) (y : Ext), k ≤ l.length ∧ i = .int .i64 k ∧ wr = wc.ext y) (fun i _ => l.length - (intOf i).toNat)
    case atStart => exact ⟨0, _, by omega, rfl, ext_ext⟩
    case round =>
      obtain ⟨i, y, hi, rfl, rfl⟩ := hrel
      by_cases hlt : i < l.length
      case neg =>
        go_wp2_with (go_at_call 11; refine (law_alive _).mono ?_; rintro e w1 ⟨rfl, y3, rfl⟩)
        go_ret
        exact .mk rfl (by simp only [ext_ext]; exact below_of_ext HBW.out hw0)
      obtain ⟨_, _, _, hAe, hc⟩ := IA.out
      injection hAe with z1 z2 z3
      subst z1 z3
      obtain ⟨_, bA, offA, rfl, hbA, cA, _⟩ := hc i _ (List.getElem?_eq_getElem hlt)
      clear hc
      obtain ⟨r1, r2, r3, r4, r5, r6⟩ := roomy hbA
      generalize l[i].bucket = kA at *
      have TWO' := Lib.hid (fun k hk => TWO.out i k hlt hk)
      obtain ⟨_, _, _, hXe, hv⟩ := VX.out
      injection hXe with z4 z5 z6
      subst z4 z6
      obtain ⟨bX, offX, rfl, hbX, x0, x1, x2, x3⟩ := hv i hlt
      clear hv
      obtain ⟨rx1, rx2, rx3, rx4, rx5, rx6⟩ := roomy hbX
      have xcell : ∀ j, j < 4 → wc.cell? ⟨bX, offX + i * 4 + j, none⟩ = some (.int .i64 (fx i j)) := by
        intro j hj
        have hcase : j = 0 ∨ j = 1 ∨ j = 2 ∨ j = 3 := by omega
        rcases hcase with rfl | rfl | rfl | rfl <;> assumption
      have XC := Lib.hid xcell
      clear xcell x0 x1 x2 x3
      go_wp2_with fail
      obtain ⟨wo, hwo⟩ : ∃ wo : World, wo = wc.ext y := ⟨_, rfl⟩
      go_loopw [12] (fun i wr => ∃ (k : Nat) (y : Ext), k ≤ l'.length ∧ i = .int .i64 k ∧ wr = wc.ext y) (fun i _ => l'.length - (intOf i).toNat)
      case atStart => exact ⟨0, y, by omega, rfl, rfl⟩
      case round =>
        clear hwo
        obtain ⟨k, y, hk, rfl, rfl⟩ := hrel
        by_cases hlk : k < l'.length
        case neg =>
          go_wp2
          go_roundw
          case rel => exact ⟨i + 1, y, by omega, by go_num, rfl⟩
          case measure => simp [intOf]; omega
        obtain ⟨_, _, _, hBe, hc⟩ := IB.out
        injection hBe with z7 z8 z9
        subst z7 z9
        obtain ⟨_, bB, offB, rfl, hbB, cB, _⟩ := hc k _ (List.getElem?_eq_getElem hlk)
        clear hc
        obtain ⟨s1, s2, s3, s4, s5, s6⟩ := roomy hbB
        generalize l'[k].bucket = kB at *
        have TW := Lib.hid (TWO'.out k hlk)
        by_cases hkk : kA = kB
        case neg =>
          have e1 : (kA != kB) = true := by simp [hkk]
          clear hkk
          go_wp2
          refine wp_region_ext (by kernel_rfl) (by kernel_rfl) ?_
          repeat (go_big_quiet_step ((first | (fail))))
          refine wpQuiet_nil ?_
          intro _ hq
          obtain ⟨yq, hq⟩ := hq
          subst hq
          go_wp2
          go_roundw
          case rel => exact ⟨k + 1, _, by omega, by go_num, ext_ext⟩
          case measure => simp [intOf]; omega
        subst hkk
        have e1 : (kA != kA) = false := by simp
        obtain ⟨_, _, _, hYe, hv⟩ := VY.out
        injection hYe with za zb zc
        subst za zc
        obtain ⟨bY, offY, rfl, hbY, x0, x1, x2, x3⟩ := hv k hlk
        clear hv
        obtain ⟨ry1, ry2, ry3, ry4, ry5, ry6⟩ := roomy hbY
        have ycell : ∀ j, j < 4 → wc.cell? ⟨bY, offY + k * 4 + j, none⟩ = some (.int .i64 (fy k j)) := by
          intro j hj
          have hcase : j = 0 ∨ j = 1 ∨ j = 2 ∨ j = 3 := by omega
          rcases hcase with rfl | rfl | rfl | rfl <;> assumption
        have YC := Lib.hid ycell
        clear ycell x0 x1 x2 x3
        generalize fx i = f at *
        generalize fy k = g at *
        go_wp2
        refine wp_region_ext (by kernel_rfl) (by kernel_rfl) ?_
        repeat (go_big_quiet_step ((first | (fail))))
        refine wpQuiet_nil ?_
        intro _ hq
        obtain ⟨yq, hq⟩ := hq
        subst hq
        go_wp2
        go_loop [13, 14] (fun n j => ∃ k : Nat, k ≤ 4 ∧ j = .int .i64 k ∧ n = .int .i64 (both f g k : Nat)) (fun _ j => 4 - (intOf j).toNat)
        case atStart => exact ⟨0, by omega, rfl, rfl⟩
        case round =>
          obtain ⟨j, hj, rfl, rfl⟩ := hrel
          have hbl := both_le f g j
          by_cases hj4 : j < 4
          · have xc := XC.out j hj4
            have yc := YC.out j hj4
            have BS := Lib.hid (show both f g (j + 1) = both f g j + if f j = 1 ∧ g j = 1 then 1 else 0 from rfl)
            generalize f j = fj at *
            generalize g j = gj at *
            by_cases hf : fj = 1
            · subst hf
              by_cases hg : gj = 1
              · subst hg
                go_wp2
                go_round
                case rel => exact ⟨j + 1, by omega, by go_num, by rw [BS.out]; simp⟩
                case measure => simp [intOf]; omega
              · have e2 : (gj == 1) = false := by simp [hg]
                have HG := Lib.hid hg
                clear hg
                go_wp2
                go_round
                case rel => exact ⟨j + 1, by omega, by go_num, by rw [BS.out]; simp [HG.out]⟩
                case measure => simp [intOf]; omega
            · have e2 : (fj == 1) = false := by simp [hf]
              have HF := Lib.hid hf
              clear hf
              go_wp2
              go_round
              case rel => exact ⟨j + 1, by omega, by go_num, by rw [BS.out]; simp [HF.out]⟩
              case measure => simp [intOf]; omega
          · obtain rfl : j = 4 := by omega
            have htw := TW.out
            go_wp2
            go_roundw
            case rel => exact ⟨k + 1, _, by omega, by go_num, ext_ext⟩
            case measure => simp [intOf]; omega
theorem cells_two : Try.prog.cellsOf 38 = 14 := by kernel_rfl
theorem cells_votes : Try.prog.cellsOf 27 = 1 := by kernel_rfl
theorem len14 {l : List Value} (h : l.length = 14) : ∃ c0 c1 c2 c3 c4 c5 c6 c7 c8 c9 c10 c11 c12 c13, l = [c0, c1, c2, c3, c4, c5, c6, c7, c8, c9, c10, c11, c12, c13] := by
  match l, h with
  | [c0, c1, c2, c3, c4, c5, c6, c7, c8, c9, c10, c11, c12, c13], _ => exact ⟨c0, c1, c2, c3, c4, c5, c6, c7, c8, c9, c10, c11, c12, c13, rfl⟩

theorem readVotesThree_38 : Try.prog.readableRec 38 = true ∧ 38 < Try.prog.types.size := ⟨by kernel_rfl, of_decide_eq_true (by kernel_rfl)⟩
theorem ownVotesThree : ownKnob Try.prog.godebug = none := by kernel_rfl
theorem laidOutVotesThree : laidOutB Try.prog = true := by kernel_rfl
theorem contractVotesThree (H : Type) (enc : TypeId × Value → H) (W : World) (base : Nat) (args : Array Value) (ds gs : List (DataW H)) (before : List MemPlace)
    (hval : ∀ (j : Nat) t v, Try.f5.params[j]? = some t → args[j]? = some v → Value.okWide Try.prog W .any base t v)
    (hW : DataW.Whole enc Try.prog Try.f5.params.toList Rows.votesThreeSpec.vars false W args.toList ds gs before) (hk : Rows.uptoSmall H (ds ++ gs) = true) :
    Calls Try.prog 5 args W fun e W' => ∃ v, e = .returned v ∧ Rows.votesThreeSpec.post enc Try.prog Try.f5 false true false false W args v W' := by
  have hfin : ∀ W', Below W.heap.size W W' → Rows.votesThreeSpec.post enc Try.prog Try.f5 false true false false W args (.bool true) W' := fun W' hb =>
    post_of_walk (n := 1) (boolT := 4) rfl (fun ds h => by match ds, h with | [a0], _ => exact ⟨rfl, rfl, rfl⟩) rfl rfl Try.underlying4 laidOutVotesThree (fun t ht => by rw [Try.params5] at ht; simp at ht; subst ht; exact readVotesThree_38) hW hb
  have hN : Rows.uptoBulkAll (ds ++ gs) ≤ 1048576 := of_decide_eq_true hk
  obtain ⟨p, q, hA, hV, rfl, hfz, hnd⟩ := hW
  rw [Try.params5] at hA hval
  obtain ⟨v0, vs0, d0, ds0, p0, q0, hargs, rfl, rfl, h0, r0⟩ := trodAll_cons hA
  obtain ⟨rfl, rfl, rfl⟩ := trodAll_nil r0
  obtain rfl : args = #[v0] := by cases args; simp_all
  simp only [List.cons_append, List.nil_append, Rows.uptoBulkAll] at hN
  obtain ⟨cs0, rfl, hs0⟩ := okWide_struct Try.underlying38 (hval 0 38 v0 rfl rfl)
  obtain ⟨f0, g0⟩ := h0
  have ty0 := typed_of_trod (N := 1048576) f0 _ _ _ g0 (by simp only; omega)
  obtain ⟨f', hl, hf⟩ := typed_struct Try.underlying38 ty0
  obtain ⟨l0⟩ := cs0
  simp only [Value.cells] at hl hf
  obtain ⟨c0, c1, c2, c3, c4, c5, c6, c7, c8, c9, c10, c11, c12, c13, rfl⟩ := len14 (hl.trans cells_two)
  have k0 : Typed Try.prog W 1048576 f' 26 (([c0, c1, c2, c3, c4, c5, c6, c7, c8, c9, c10, c11, c12, c13].drop 0).take (Try.prog.cellsOf 26)) := hf 0 _ rfl
  have k1 : Typed Try.prog W 1048576 f' 26 (([c0, c1, c2, c3, c4, c5, c6, c7, c8, c9, c10, c11, c12, c13].drop 6).take (Try.prog.cellsOf 26)) := hf 1 _ rfl
  have k2 : Typed Try.prog W 1048576 f' 27 (([c0, c1, c2, c3, c4, c5, c6, c7, c8, c9, c10, c11, c12, c13].drop 12).take (Try.prog.cellsOf 27)) := hf 2 _ rfl
  have k3 : Typed Try.prog W 1048576 f' 27 (([c0, c1, c2, c3, c4, c5, c6, c7, c8, c9, c10, c11, c12, c13].drop 13).take (Try.prog.cellsOf 27)) := hf 3 _ rfl
  simp only [cells_tx, cells_votes] at k0 k1 k2 k3
  obtain ⟨a, ea, ia, wa⟩ := read_tx (Nat.le_refl _) k0
  obtain ⟨b, eb, ib, wb⟩ := read_tx (Nat.le_refl _) k1
  obtain ⟨n, fx, hx⟩ := read_votes (Nat.le_refl _) k2
  obtain ⟨m, fy, hy⟩ := read_votes (Nat.le_refl _) k3
  simp at ea eb
  obtain ⟨rfl, rfl, rfl, rfl, rfl, rfl⟩ := ea
  obtain ⟨rfl, rfl, rfl, rfl, rfl, rfl⟩ := eb
  exact (walkThree a b _ _ n m fx fy W ia wa ib wb hx hy).mono fun e W' ⟨he, y, hy⟩ => ⟨_, he, hfin W' (by rw [hy]; exact below_ext)⟩

set_option maxRecDepth 100000 in
theorem liftedVotesThree (os : Os) (started : os.Started) (H : Type) (enc : TypeId × Value → H) (F : Stop.Interp) :
    ReturnsInHanded {} Try.checked os 5 .any ((Rows.OpenSpec.upto Rows.votesThreeSpec).pre6 enc Try.prog Try.f5 Rows.votesThreeUptoRow.domain false) (((Rows.OpenSpec.upto Rows.votesThreeSpec).at F).post enc Try.prog Try.f5 false true false false) := by
  refine returnsInHanded_of_cond (C := Try.checked) (s := Rows.OpenSpec.upto Rows.votesThreeSpec) (k := Rows.uptoSmall) rfl ownVotesThree started (by kernel_rfl) Try.func5
    (OpenSpec.witness (enc := enc) (C := Try.checked) (s := Rows.OpenSpec.upto Rows.votesThreeSpec) (k := Rows.uptoSmall) rfl false
      ⟨#[], #[.agg #[.int .u64 0, .int .i64 0, .int .i64 0, .int .i64 0, .int .i64 0, .slice none 0 0, .int .u64 0, .int .i64 0, .int .i64 0, .int .i64 0, .int .i64 0, .slice none 0 0, .slice none 0 0, .slice none 0 0]], []⟩ 8 (by kernel_rfl) (by kernel_rfl) (by kernel_rfl)
      (x := ([.agg [.agg [.lit (.int .u64 0), .lit (.int .i64 0), .agg [.lit (.int .i64 0), .lit (.int .i64 0), .lit (.int .i64 0)], .nil], .agg [.lit (.int .u64 0), .lit (.int .i64 0), .agg [.lit (.int .i64 0), .lit (.int .i64 0), .lit (.int .i64 0)], .nil], .nil, .nil]], [], [])) (by kernel_rfl) rfl (by kernel_rfl)) ?_
  intro W base args ds gs before hval hW _ hk _
  exact contractVotesThree H enc W base args ds gs before hval hW hk

theorem VotesThree_holds : Rows.VotesThreeUptoSaid :=
  OpenClaim.holds_of_cond 5 Try.f5 rfl rfl rfl rfl rfl rfl rfl ⟨rfl, rfl, rfl, rfl, rfl⟩ rfl rfl rfl rfl rfl (by kernel_rfl) Try.func5 (by kernel_rfl)
    (of_decide_eq_true (by kernel_rfl)) (by unfold Func.isWrapper; first | (rw [if_pos (by decide +kernel)]; kernel_rfl) | (rw [if_neg (by decide +kernel)]; exact ⟨rfl, rfl⟩))
    (fun os started H enc _ F => liftedVotesThree os started H enc F)
end Go.Proofs.Yteheajddplkmdaa
