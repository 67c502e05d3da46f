/- PROVED: what is decided stays, whatever the votes that were none become, one by one (VotesSure): for arguments of bulk at most 1048576, the law returns true, and each argument reads behind the call as it read before. -/
import Derived.Test.YteheajddplkmdaaRead18
import Derived.Test.YteheajddplkmdaaAlive
import Derived.Test.YteheajddplkmdaaSurePlain
import Derived.Test.YteheajddplkmdaaAppend
import Derived.Deep.DeepCutAuto
import Derived.Outline
set_option linter.unusedVariables false
set_option linter.unusedSimpArgs false
namespace Go.Proofs.Yteheajddplkmdaa
open Go.RowKit Go.WideShapes Go.ChangeShapes Go.ChangeAt Go.Tk

/-- rows of votes, cell by cell -/
def flat (f : Nat → Nat → Int) : Nat → List Value
  | 0 => []
  | n + 1 => flat f n ++ [.int .i64 (f n 0), .int .i64 (f n 1), .int .i64 (f n 2), .int .i64 (f n 3)]
theorem flat_len (f : Nat → Nat → Int) : ∀ n, (flat f n).length = n * 4
  | 0 => rfl
  | n + 1 => by simp [flat, flat_len f n]; omega
theorem flat_get {f : Nat → Nat → Int} {i k : Nat} (hk : k < 4) : ∀ n, i < n → (flat f n)[i * 4 + k]? = some (.int .i64 (f i k))
  | 0, h => by omega
  | n + 1, h => by
    unfold flat
    rw [List.getElem?_append, flat_len]
    by_cases e : i = n
    · subst e
      rw [if_neg (by omega), show i * 4 + k - i * 4 = k by omega]
      have hcase : k = 0 ∨ k = 1 ∨ k = 2 ∨ k = 3 := by omega
      rcases hcase with rfl | rfl | rfl | rfl <;> rfl
    · rw [if_pos (by omega)]
      exact flat_get hk n (by omega)
theorem flat_none {f : Nat → Nat → Int} {j n : Nat} (h : n * 4 ≤ j) : (flat f n)[j]? = none := by rw [List.getElem?_eq_none]; rw [flat_len]; exact h
theorem flat_set {f : Nat → Nat → Int} {i k n : Nat} (hk : k < 4) (hi : i < n) (v : Int) : (flat f n).set (i * 4 + k) (.int .i64 v) = flat (setV f i k v) n := by
  apply List.ext_getElem?
  intro j
  by_cases hj : j < n * 4
  · have e : j = j / 4 * 4 + j % 4 := by omega
    have h1 : j % 4 < 4 := Nat.mod_lt _ (by omega)
    have h2 : j / 4 < n := by omega
    rw [List.getElem?_set, flat_len]
    by_cases ej : i * 4 + k = j
    · rw [if_pos ej, if_pos (by omega), ← ej, flat_get hk n hi]
      simp [setV]
    · rw [if_neg ej, e, flat_get h1 n h2, flat_get h1 n h2]
      have : ¬ (j / 4 = i ∧ j % 4 = k) := by rintro ⟨rfl, rfl⟩; omega
      simp [setV, this]
  · rw [flat_none (by omega), List.getElem?_eq_none]
    rw [List.length_set, flat_len]
    omega
theorem flat_one (f : Nat → Nat → Int) : ∀ n, ∀ u ∈ flat f n, u.oneCell' = true
  | 0, u, hu => by simp [flat] at hu
  | n + 1, u, hu => by
    simp only [flat, List.mem_append] at hu
    rcases hu with hu | hu
    · exact flat_one f n u hu
    · simp at hu
      rcases hu with rfl | rfl | rfl | rfl <;> rfl
theorem Votes.src {w : World} {A : Option Addr} {n c : Nat} {f : Nat → Nat → Int} (h : Votes w (.slice A n c) n f) : Src w A 4 n (flat f n) := by
  obtain ⟨_, A', c', hv, hc⟩ := h
  injection hv with e1 e2 e3
  subst e1 e3
  refine ⟨flat_len f n, fun hn => ?_⟩
  obtain ⟨b, off, rfl, hb, _⟩ := hc 0 hn
  refine ⟨b, off, rfl, fun j u hu => ?_⟩
  have hj : j < n * 4 := by have := (List.getElem?_eq_some_iff.1 hu).1; rwa [flat_len] at this
  obtain ⟨i, r, rfl, hr⟩ : ∃ i r, j = i * 4 + r ∧ r < 4 := ⟨j / 4, j % 4, by omega, Nat.mod_lt _ (by omega)⟩
  have h2 : i < n := by omega
  obtain ⟨b', off', e1, _, c0, c1, c2, c3⟩ := hc i h2
  simp only [Option.some.injEq, Addr.mk.injEq, and_true] at e1
  obtain ⟨rfl, rfl⟩ := e1
  rw [flat_get hr n h2] at hu
  injection hu with hu
  subst hu
  have hcase : r = 0 ∨ r = 1 ∨ r = 2 ∨ r = 3 := by omega
  rw [← Nat.add_assoc]
  rcases hcase with rfl | rfl | rfl | rfl
  · exact c0
  · exact c1
  · exact c2
  · exact c3
theorem Votes.of_own {X : World} {y : Ext} {A : Option Addr} {n c : Nat} {f : Nat → Nat → Int} (hn : n ≤ 1048576) (h : Own X y 35 4 (.slice A n c) n (flat f n)) : Votes (X.ext y) (.slice A n c) n f := by
  refine ⟨hn, A, c, rfl, fun i hi => ?_⟩
  obtain ⟨g, rfl, hg, hlt, hc⟩ := h.at_ (by omega)
  refine ⟨g, 0, rfl, hlt, ?_⟩
  have h0 := (hc (i * 4 + 0) (by omega)).1
  have h1 := (hc (i * 4 + 1) (by omega)).1
  have h2 := (hc (i * 4 + 2) (by omega)).1
  have h3 := (hc (i * 4 + 3) (by omega)).1
  rw [flat_get (by omega) n hi] at h0 h1 h2 h3
  simp only [Nat.zero_add]
  exact ⟨h0, h1, h2, h3⟩
/-- a slice of numbers -/
def Ints (w : World) (v : Value) (n : Nat) (f : Nat → Int) : Prop :=
  n ≤ 1048576 ∧ ∃ A c, v = .slice A n c ∧ ∀ i, i < n → ∃ b off, A = some ⟨b, off, none⟩ ∧ b < w.heap.size ∧ w.cell? ⟨b, off + i, none⟩ = some (.int .i64 (f i))
theorem infoRow : (Try.prog.info? 35).map (fun i => (i.zero, i.size, i.bytes)) = some (some (.agg #[.int .i64 0, .int .i64 0, .int .i64 0, .int .i64 0]), 4, 32) := by kernel_rfl

set_option maxRecDepth 100000 in
set_option maxHeartbeats 2000000 in
theorem walkSure (t : TxR) (vv mv : Value) (n nm : Nat) (fr : Nat → Nat → Int) (fm : Nat → Int) (w : World) (hi : Items w t.data t.items) (hw : WfTx t) (hv : Votes w vv n fr) (hm : Ints w mv nm fm) :
    Calls Try.prog 4 #[t.val, vv, mv] w (Gives w (.bool true)) := by
  have C1 := Lib.hid (fun W f v (h : Items W t.data t.items) (h' : Votes W v n f) => votes_Decide t v n f W h hw h')
  have ERR := Lib.hid (decide18_err (rt := t.right) (n := n) (m := t.items.length) (f := fr) (g := incsOf t.items))
  have ZERO := Lib.hid (fun h => decide18_zero (rt := t.right) (n := n) (m := t.items.length) (f := fr) (g := incsOf t.items) h)
  generalize t.right = rt at *
  obtain ⟨id, client, m0, m1, m2, data, l⟩ := t
  simp only at hi C1 ERR ZERO
  unfold TxR.val at *
  simp only at C1 ⊢
  have HI := Lib.hid hi
  have HV := Lib.hid hv
  have HM := Lib.hid hm
  clear hw
  obtain ⟨hl, A, c, rfl, hc⟩ := hi
  obtain ⟨hn, B, e, rfl, hvc⟩ := hv
  obtain ⟨hnm, B2, e2, rfl, hmc⟩ := hm
  clear hc hvc hmc
  generalize incsOf l = inc at *
  obtain ⟨q1, q2, q3, q4, q5, q6⟩ := roomy (b := w.heap.size) (s := w.heap.size + 1) (by omega)
  by_cases he : (decide18 rt n l.length fr inc).2 = 0
  case neg =>
    have hd : decide18 rt n l.length fr inc = (0, 181) := ERR.out.resolve_left he
    have c1 := fun W h h' => C1.out W fr (.slice B n e) h h'
    rw [hd] at c1
    have C2 := Lib.hid c1
    clear c1 hd he C1 ERR ZERO
    go_enter Try.func4, Try.ntmps4
    go_wp2_with (first | (go_at_call 9; refine (C2.out _ (HI.out.alloc _) (HV.out.alloc _)).mono ?_; rintro e w1 ⟨rfl, y, rfl⟩) | (go_at_call 11; refine (law_alive _).mono ?_; rintro e w1 ⟨rfl, y3, rfl⟩))
    go_ret
    exact .mk rfl (by simp only [ext_ext]; exact below_of_ext ((Below.refl _ _).alloc (Nat.le_refl _) _) (by (try simp only [World.size_alloc, size_ext, World.size_setCell]); omega))
  obtain ⟨rfl, rfl, hok0⟩ := ZERO.out he
  obtain ⟨was0, hwas0⟩ : ∃ d, d = (decide18 true l.length l.length fr inc).1 := ⟨_, rfl⟩
  have hd : decide18 true l.length l.length fr inc = (was0, 0) := by rw [hwas0]; exact Prod.ext rfl he
  have c1 := fun W h h' => C1.out W fr (.slice B l.length e) h h'
  rw [hd] at c1
  have C2 := Lib.hid c1
  have HW0 := Lib.hid hwas0
  have HOK0 := Lib.hid hok0
  clear c1 hd he ERR ZERO hwas0 hok0
  obtain ⟨i0, hi0, hz0, hz1, hz2⟩ := info_parts infoRow
  go_enter Try.func4, Try.ntmps4
  go_wp2_with fail
  refine (C2.out _ (HI.out.alloc _) (HV.out.alloc _)).mono ?_
  rintro e w1 ⟨rfl, y0, rfl⟩
  go_wp2_with (at_builtin; refine wpList_append_ext rfl _ _ _ rfl (X := (w.alloc (.cells #[.int .u64 id, .int .i64 client, .int .i64 m0, .int .i64 m1, .int .i64 m2, .slice A l.length c] 26))) (y := y0) rfl i0 _ 32 Try.underlying27 hi0 hz0 hz1 hz2 rfl (by omega) rfl Own.nil B l.length _ (flat fr l.length) rfl (Votes.src ((HV.out.alloc _).ext)) (flat_one fr _) (by unfold maxLen; omega) (by omega) ?_; intro vn y1 hown hg hat)
  have hvn : ∃ G cp, vn = .slice G l.length cp := by
    rcases hown.2 with ⟨rfl, h0⟩ | ⟨g, cap, cur, rfl, _⟩
    · exact ⟨none, 0, by rw [show l.length = 0 by omega]⟩
    · exact ⟨_, _, by rw [Nat.zero_add]⟩
  obtain ⟨G, cp, rfl⟩ := hvn
  rw [Nat.zero_add, List.nil_append] at hown
  have HOWN := Lib.hid hown
  clear hown hg hat C2
  go_wp2_with fail
  go_loopw [7, 10, 11] (fun s7 s10 s11 wr => ∃ (i : Nat) (y : Ext) (f : Nat → Nat → Int) (nn : Nat), i ≤ l.length ∧ s11 = .int .i64 i ∧ s10 = .int .i64 nn ∧ nn ≤ nm ∧ s7 = .int .i64 (decide18 true l.length l.length f inc).1 ∧ wr = (w.alloc (.cells #[.int .u64 id, .int .i64 client, .int .i64 m0, .int .i64 m1, .int .i64 m2, .slice A l.length c] 26)).ext y ∧
    Hid (Own (w.alloc (.cells #[.int .u64 id, .int .i64 client, .int .i64 m0, .int .i64 m1, .int .i64 m2, .slice A l.length c] 26)) y 35 4 (.slice G l.length cp) l.length (flat f l.length)) ∧ Hid (rowsOk f l.length = true)) (fun _ _ s11 _ => l.length - (intOf s11).toNat)
  case atStart => exact ⟨0, y1, fr, 0, by omega, rfl, rfl, by omega, by rw [HW0.out], rfl, HOWN, HOK0⟩
  case round =>
    obtain ⟨i, y, f, nn, hi, rfl, rfl, hnn, rfl, rfl, hown, hok⟩ := hrel
    by_cases hlt : i < l.length
    case neg =>
      go_wp2_with (go_at_call 11; refine (law_alive _).mono ?_; rintro e w1 ⟨rfl, y3, rfl⟩)
      go_ret
      exact .mk rfl (by simp only [ext_ext]; exact below_of_ext ((Below.refl _ _).alloc (Nat.le_refl _) _) (by (try simp only [World.size_alloc, size_ext, World.size_setCell]); omega))
    go_wp2_with fail
    go_loopw [7, 10, 12] (fun s7 s10 s12 wr => ∃ (k : Nat) (y : Ext) (f : Nat → Nat → Int) (nn : Nat), k ≤ 4 ∧ s12 = .int .i64 k ∧ s10 = .int .i64 nn ∧ nn ≤ nm ∧ s7 = .int .i64 (decide18 true l.length l.length f inc).1 ∧ wr = (w.alloc (.cells #[.int .u64 id, .int .i64 client, .int .i64 m0, .int .i64 m1, .int .i64 m2, .slice A l.length c] 26)).ext y ∧
      Hid (Own (w.alloc (.cells #[.int .u64 id, .int .i64 client, .int .i64 m0, .int .i64 m1, .int .i64 m2, .slice A l.length c] 26)) y 35 4 (.slice G l.length cp) l.length (flat f l.length)) ∧ Hid (rowsOk f l.length = true)) (fun _ _ s12 _ => 4 - (intOf s12).toNat)
    case atStart => exact ⟨0, y, f, nn, by omega, rfl, rfl, hnn, rfl, rfl, hown, hok⟩
    case round =>
      clear hown hok hnn
      obtain ⟨k, y, f, nn, hk, rfl, rfl, hnn, rfl, rfl, hown, hok⟩ := hrel
      by_cases hk4 : k < 4
      case neg =>
        obtain rfl : k = 4 := by omega
        go_wp2
        go_roundw
        case rel => exact ⟨i + 1, y, f, nn, by omega, by go_num, rfl, hnn, rfl, rfl, hown, hok⟩
        case measure => simp [intOf]; omega
      have hat := Own.at_ hown.out (by omega)
      obtain ⟨g, rfl, hg, hgl, hcell⟩ := hat
      obtain ⟨hc0, hf0⟩ := hcell (i * 4 + k) (by omega)
      rw [flat_get hk4 _ hlt] at hc0
      have HF := Lib.hid hf0
      clear hcell hf0
      have HST := Lib.hid (fun (h : f i k = 0) (v : Int) (hv : 0 ≤ v ∧ v ≤ 2) => stays (g := inc) hok.out h hv)
      obtain ⟨fv, hfv⟩ : ∃ x, x = f i k := ⟨_, rfl⟩
      rw [← hfv] at hc0
      have HFV := Lib.hid hfv
      clear hfv
      by_cases hz : fv = 0
      case neg =>
        have t1 : (fv != 0) = true := by simp [hz]
        clear hz
        go_wp2
        go_roundw
        case rel => exact ⟨k + 1, y, f, nn, by omega, by go_num, rfl, hnn, rfl, rfl, hown, hok⟩
        case measure => simp [intOf]; omega
      subst hz
      by_cases hnm' : nn < nm
      case neg =>
        go_wp2
        go_roundw
        case rel => exact ⟨k + 1, y, f, nn, by omega, by go_num, rfl, hnn, rfl, rfl, hown, hok⟩
        case measure => simp [intOf]; omega
      obtain ⟨_, _, _, hme, hmc⟩ := HM.out
      injection hme with z1 z2 z3
      subst z1 z3
      obtain ⟨bm, offm, rfl, hbm, mc⟩ := hmc nn hnm'
      obtain ⟨r1, r2, r3, r4, r5, r6⟩ := roomy hbm
      clear hmc
      generalize fm nn = v at *
      by_cases hv : 0 ≤ v ∧ v ≤ 2
      case neg =>
        go_wp2
        all_goals
          go_roundw
          case rel => exact ⟨k + 1, y, f, nn + 1, by omega, by go_num, by go_num, by omega, rfl, rfl, hown, hok⟩
          case measure => simp [intOf]; omega
      obtain ⟨hv0, hv2⟩ := hv
      have hfz := HF.out
      obtain ⟨z, hz, hown2, _⟩ := Own.stored hown.out hg (i * 4 + k) (.int .i64 v)
      rw [flat_set hk4 hlt] at hown2
      have HZ := Lib.hid hz
      have HO2 := Lib.hid hown2
      have hok2 : Hid (rowsOk (setV f i k v) l.length = true) := Lib.hid (rowsOk_set hok.out ⟨hv0, hv2⟩)
      obtain ⟨hs1, hs2⟩ := HST.out HFV.out.symm v ⟨hv0, hv2⟩
      have c1 := fun W h h' => C1.out W (setV f i k v) (.slice (some ⟨g, 0, none⟩) l.length cp) h h'
      obtain ⟨was1, hwas1⟩ : ∃ d, d = (decide18 true l.length l.length (setV f i k v) inc).1 := ⟨_, rfl⟩
      have hd : decide18 true l.length l.length (setV f i k v) inc = (was1, 0) := by rw [hwas1]; exact Prod.ext rfl hs1
      rw [hd] at c1
      have C3 := Lib.hid c1
      rw [← hwas1] at hs2
      have HW1 := Lib.hid hwas1
      obtain ⟨was, hwas⟩ : ∃ d, d = (decide18 true l.length l.length f inc).1 := ⟨_, rfl⟩
      rw [← hwas] at hs2 ⊢
      clear hz hown2 hs1 c1 hd hwas1 hwas HST HW0 HOK0 HF hown hok HOWN
      go_upto_region 18 with (fail)
      rw [HZ.out]
      clear hfz hc0 HZ
      by_cases hw0 : was = 0
      · subst hw0
        go_wp2_with (go_at_call 9; refine (C3.out _ (HI.out.alloc _).ext (Votes.of_own hn HO2.out)).mono ?_; rintro e w1 ⟨rfl, z1, rfl⟩)
        go_roundw
        case rel => exact ⟨k + 1, _, setV f i k v, nn + 1, by omega, by go_num, by go_num, by omega, by rw [← HW1.out], ext_ext, Lib.hid (Own.more HO2.out ⟨z1, ext_ext.symm⟩), hok2⟩
        case measure => simp [intOf]; omega
      · have e1 : was1 = was := hs2.resolve_left hw0
        subst e1
        have t1 : (was1 != 0) = true := by simp [hw0]
        have t2 : (was1 != was1) = false := by simp
        clear hw0 hs2
        go_wp2_with (go_at_call 9; refine (C3.out _ (HI.out.alloc _).ext (Votes.of_own hn HO2.out)).mono ?_; rintro e w1 ⟨rfl, z1, rfl⟩)
        go_roundw
        case rel => exact ⟨k + 1, _, setV f i k v, nn + 1, by omega, by go_num, by go_num, by omega, by rw [← HW1.out], ext_ext, Lib.hid (Own.more HO2.out ⟨z1, ext_ext.symm⟩), hok2⟩
        case measure => simp [intOf]; omega
theorem read_ints {w : World} {N f : Nat} {v : Value} (hN : N ≤ 1048576) (h : Typed Try.prog w N f 34 [v]) : ∃ n fr, Ints w v n fr := by
  obtain ⟨A, len, cap, f', hv, hlen, hi⟩ := typed_slice Try.underlying34 (by rw [cells_vote]; omega) h
  rw [cells_vote] at hi
  have hall : ∀ i, i < len → ∃ x : Int, ∃ b off, A = some ⟨b, off, none⟩ ∧ b < w.heap.size ∧ w.cell? ⟨b, off + i, none⟩ = some (.int .i64 x) := by
    intro i hlt
    obtain ⟨b, off, cs', hA, hb, hcl, hc, ht⟩ := hi i hlt
    obtain ⟨x, rfl, _⟩ := typed_int Try.underlying28 ht
    exact ⟨x, b, off, hA, hb, by simpa using hc 0 _ rfl⟩
  obtain ⟨l, hl, hr⟩ := list_of_all hall
  subst hl
  refine ⟨l.length, fun i => (l[i]?).getD 0, by omega, A, cap, one1 hv, fun i hi => ?_⟩
  have hx : l[i]? = some l[i] := List.getElem?_eq_getElem hi
  simp only [hx, Option.getD_some]
  exact hr i _ hx

theorem readVotesSure_26 : Try.prog.readableRec 26 = true ∧ 26 < Try.prog.types.size := ⟨by kernel_rfl, of_decide_eq_true (by kernel_rfl)⟩
theorem readVotesSure_27 : Try.prog.readableRec 27 = true ∧ 27 < Try.prog.types.size := ⟨by kernel_rfl, of_decide_eq_true (by kernel_rfl)⟩
theorem readVotesSure_34 : Try.prog.readableRec 34 = true ∧ 34 < Try.prog.types.size := ⟨by kernel_rfl, of_decide_eq_true (by kernel_rfl)⟩
theorem ownVotesSure : ownKnob Try.prog.godebug = none := by kernel_rfl
theorem laidOutVotesSure : laidOutB Try.prog = true := by kernel_rfl
theorem contractVotesSure (H : Type) (enc : TypeId × Value → H) (W : World) (base : Nat) (args : Array Value) (ds gs : List (DataW H)) (before : List MemPlace)
    (hval : ∀ (j : Nat) t v, Try.f4.params[j]? = some t → args[j]? = some v → Value.okWide Try.prog W .any base t v)
    (hW : DataW.Whole enc Try.prog Try.f4.params.toList Rows.votesSureSpec.vars false W args.toList ds gs before) (hk : Rows.uptoSmall H (ds ++ gs) = true) :
    Calls Try.prog 4 args W fun e W' => ∃ v, e = .returned v ∧ Rows.votesSureSpec.post enc Try.prog Try.f4 false true false false W args v W' := by
  have hfin : ∀ W', Below W.heap.size W W' → Rows.votesSureSpec.post enc Try.prog Try.f4 false true false false W args (.bool true) W' := fun W' hb =>
    post_of_walk (n := 3) (boolT := 4) rfl (fun ds h => by match ds, h with | [a0, a1, a2], _ => exact ⟨rfl, rfl, rfl⟩) rfl rfl Try.underlying4 laidOutVotesSure (fun t ht => by rw [Try.params4] at ht; simp at ht; rcases ht with rfl | rfl | rfl; exact readVotesSure_26; exact readVotesSure_27; exact readVotesSure_34) hW hb
  have hN : Rows.uptoBulkAll (ds ++ gs) ≤ 1048576 := of_decide_eq_true hk
  obtain ⟨p, q, hA, hV, rfl, hfz, hnd⟩ := hW
  rw [Try.params4] at hA hval
  obtain ⟨v0, vs0, d0, ds0, p0, q0, hargs, rfl, rfl, h0, r0⟩ := trodAll_cons hA
  obtain ⟨v1, vs1, d1, ds1, p1, q1, rfl, rfl, rfl, h1, r1⟩ := trodAll_cons r0
  obtain ⟨v2, vs2, d2, ds2, p2, q2, rfl, rfl, rfl, h2, r2⟩ := trodAll_cons r1
  obtain ⟨rfl, rfl, rfl⟩ := trodAll_nil r2
  obtain rfl : args = #[v0, v1, v2] := by cases args; simp_all
  simp only [List.cons_append, List.nil_append, Rows.uptoBulkAll] at hN
  obtain ⟨cs0, rfl, hs0⟩ := okWide_struct Try.underlying26 (hval 0 26 v0 rfl rfl)
  obtain ⟨f0, g0⟩ := h0
  have ty0 := typed_of_trod (N := 1048576) f0 _ _ _ g0 (by simp only; omega)
  obtain ⟨A1, len1, cap1, rfl⟩ := okWide_slice Try.underlying27 (hval 1 27 v1 rfl rfl)
  obtain ⟨f1, g1⟩ := h1
  have ty1 := typed_of_trod (N := 1048576) f1 _ _ _ g1 (by simp only; omega)
  obtain ⟨A2, len2, cap2, rfl⟩ := okWide_slice Try.underlying34 (hval 2 34 v2 rfl rfl)
  obtain ⟨f2, g2⟩ := h2
  have ty2 := typed_of_trod (N := 1048576) f2 _ _ _ g2 (by simp only; omega)
  obtain ⟨t, ht, hi, hw⟩ := read_tx (Nat.le_refl _) ty0
  obtain ⟨n, fr, hv⟩ := read_votes (Nat.le_refl _) ty1
  obtain ⟨nm, fm, hm⟩ := read_ints (Nat.le_refl _) ty2
  have e0 : Value.agg cs0 = t.val := by
    unfold TxR.val
    congr 1
    apply Array.ext'
    simpa [Value.cells] using ht
  rw [e0] at hfin ⊢
  exact (walkSure t _ _ n nm fr fm W hi hw hv hm).mono fun e W' ⟨he, y, hy⟩ => ⟨_, he, hfin W' (by rw [hy]; exact below_ext)⟩

set_option maxRecDepth 100000 in
theorem liftedVotesSure (os : Os) (started : os.Started) (H : Type) (enc : TypeId × Value → H) (F : Stop.Interp) :
    ReturnsInHanded {} Try.checked os 4 .any ((Rows.OpenSpec.upto Rows.votesSureSpec).pre6 enc Try.prog Try.f4 Rows.votesSureUptoRow.domain false) (((Rows.OpenSpec.upto Rows.votesSureSpec).at F).post enc Try.prog Try.f4 false true false false) := by
  refine returnsInHanded_of_cond (C := Try.checked) (s := Rows.OpenSpec.upto Rows.votesSureSpec) (k := Rows.uptoSmall) rfl ownVotesSure started (by kernel_rfl) Try.func4
    (OpenSpec.witness (enc := enc) (C := Try.checked) (s := Rows.OpenSpec.upto Rows.votesSureSpec) (k := Rows.uptoSmall) rfl false
      ⟨#[], #[.agg #[.int .u64 0, .int .i64 0, .int .i64 0, .int .i64 0, .int .i64 0, .slice none 0 0], .slice none 0 0, .slice none 0 0], []⟩ 8 (by kernel_rfl) (by kernel_rfl) (by kernel_rfl)
      (x := ([.agg [.lit (.int .u64 0), .lit (.int .i64 0), .agg [.lit (.int .i64 0), .lit (.int .i64 0), .lit (.int .i64 0)], .nil], .nil, .nil], [], [])) (by kernel_rfl) rfl (by kernel_rfl)) ?_
  intro W base args ds gs before hval hW _ hk _
  exact contractVotesSure H enc W base args ds gs before hval hW hk

theorem VotesSure_holds : Rows.VotesSureUptoSaid :=
  OpenClaim.holds_of_cond 4 Try.f4 rfl rfl rfl rfl rfl rfl rfl ⟨rfl, rfl, rfl, rfl, rfl⟩ rfl rfl rfl rfl rfl (by kernel_rfl) Try.func4 (by kernel_rfl)
    (of_decide_eq_true (by kernel_rfl)) (by unfold Func.isWrapper; first | (rw [if_pos (by decide +kernel)]; kernel_rfl) | (rw [if_neg (by decide +kernel)]; exact ⟨rfl, rfl⟩))
    (fun os started H enc _ F => liftedVotesSure os started H enc F)
end Go.Proofs.Yteheajddplkmdaa
