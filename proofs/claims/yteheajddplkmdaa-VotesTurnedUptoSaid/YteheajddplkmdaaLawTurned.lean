/- PROVED: votes, and the incarnations with them, turned from each replica to the next come to the same (VotesTurned): for arguments of bulk at most 1048576, the law returns true, and each argument reads behind the call as it read before. -/
import Derived.Test.YteheajddplkmdaaRead18
import Derived.Test.YteheajddplkmdaaAlive
import Derived.Test.YteheajddplkmdaaTurnPlain
import Derived.Test.YteheajddplkmdaaOwn18
import Derived.Deep.DeepCutAuto
import Derived.Outline
set_option linter.unusedVariables false
set_option linter.unusedSimpArgs false
namespace Go.Proofs.Yteheajddplkmdaa
open Go.RowKit Go.WideShapes Go.ChangeShapes Go.ChangeAt Go.Tk

/-- rows of votes, cell by cell -/
def flat (f : Nat → Nat → Int) : Nat → List Value
  | 0 => []
  | n + 1 => flat f n ++ [.int .i64 (f n 0), .int .i64 (f n 1), .int .i64 (f n 2), .int .i64 (f n 3)]
theorem flat_len (f : Nat → Nat → Int) : ∀ n, (flat f n).length = n * 4
  | 0 => rfl
  | n + 1 => by simp [flat, flat_len f n]; omega
theorem flat_get {f : Nat → Nat → Int} {i k : Nat} (hk : k < 4) : ∀ n, i < n → (flat f n)[i * 4 + k]? = some (.int .i64 (f i k))
  | 0, h => by omega
  | n + 1, h => by
    unfold flat
    rw [List.getElem?_append, flat_len]
    by_cases e : i = n
    · subst e
      rw [if_neg (by omega), show i * 4 + k - i * 4 = k by omega]
      have hcase : k = 0 ∨ k = 1 ∨ k = 2 ∨ k = 3 := by omega
      rcases hcase with rfl | rfl | rfl | rfl <;> rfl
    · rw [if_pos (by omega)]
      exact flat_get hk n (by omega)
theorem flat_congr {f g : Nat → Nat → Int} : ∀ n, (∀ j, j < n → f j = g j) → flat f n = flat g n
  | 0, _ => rfl
  | n + 1, h => by unfold flat; rw [flat_congr n (fun j hj => h j (by omega)), h n (by omega)]
theorem Votes.of_own {X : World} {y : Ext} {A : Option Addr} {n c : Nat} {f : Nat → Nat → Int} (hn : n ≤ 1048576) (h : Own X y 35 4 (.slice A n c) n (flat f n)) : Votes (X.ext y) (.slice A n c) n f := by
  refine ⟨hn, A, c, rfl, fun i hi => ?_⟩
  obtain ⟨g, rfl, hg, hlt, hc⟩ := h.at_ (by omega)
  refine ⟨g, 0, rfl, hlt, ?_⟩
  have h0 := (hc (i * 4 + 0) (by omega)).1
  have h1 := (hc (i * 4 + 1) (by omega)).1
  have h2 := (hc (i * 4 + 2) (by omega)).1
  have h3 := (hc (i * 4 + 3) (by omega)).1
  rw [flat_get (by omega) n hi] at h0 h1 h2 h3
  simp only [Nat.zero_add]
  exact ⟨h0, h1, h2, h3⟩
theorem infoRow : (Try.prog.info? 35).map (fun i => (i.zero, i.size, i.bytes)) = some (some (.agg #[.int .i64 0, .int .i64 0, .int .i64 0, .int .i64 0]), 4, 32) := by kernel_rfl
/-- a row with one of its numbers set -/
def setN (f : Nat → Int) (p : Nat) (v : Int) : Nat → Int := fun q => if q = p then v else f q
theorem row4_set (f : Nat → Int) (t : TypeId) {p : Nat} (hp : p < 4) (v : Int) : (#[.int .i64 (f 0), .int .i64 (f 1), .int .i64 (f 2), .int .i64 (f 3)] : Array Value).modify p (fun _ => .int .i64 v) = #[.int .i64 (setN f p v 0), .int .i64 (setN f p v 1), .int .i64 (setN f p v 2), .int .i64 (setN f p v 3)] := by
  have hcase : p = 0 ∨ p = 1 ∨ p = 2 ∨ p = 3 := by omega
  rcases hcase with rfl | rfl | rfl | rfl <;> rfl
theorem row4_at (f : Nat → Int) {p : Nat} (hp : p < 4) : (#[.int .i64 (f 0), .int .i64 (f 1), .int .i64 (f 2), .int .i64 (f 3)] : Array Value)[p]? = some (.int .i64 (f p)) := by
  have hcase : p = 0 ∨ p = 1 ∨ p = 2 ∨ p = 3 := by omega
  rcases hcase with rfl | rfl | rfl | rfl <;> rfl
def setI (L : Nat → ItemR) (i p : Nat) (v : Int) : Nat → ItemR := fun j => if j = i then { L i with inc := setN (L i).inc p v } else L j
theorem flatI_set {L : Nat → ItemR} {i p n : Nat} (hp : p < 4) (hi : i < n) (v : Int) : (flatI L n).set (i * 8 + (4 + p)) (.int .u32 v) = flatI (setI L i p v) n := by
  apply List.ext_getElem?
  intro j
  by_cases hj : j < n * 8
  · have e : j = j / 8 * 8 + j % 8 := by omega
    have h1 : j % 8 < 8 := Nat.mod_lt _ (by omega)
    have h2 : j / 8 < n := by omega
    rw [List.getElem?_set, flatI_len, e, flatI_get h1 n h2, flatI_get h1 n h2, ← e]
    by_cases ei : j / 8 = i
    · by_cases ej : i * 8 + (4 + p) = j
      · rw [if_pos ej, if_pos (by omega)]
        have e2 : j % 8 = 4 + p := by omega
        rw [e2, ei]
        have hcase : p = 0 ∨ p = 1 ∨ p = 2 ∨ p = 3 := by omega
        rcases hcase with rfl | rfl | rfl | rfl <;> simp [setI, setN, ItemR.cells]
      · rw [if_neg ej, ei]
        have e2 : j % 8 ≠ 4 + p := by omega
        generalize j % 8 = q at *
        have hq : q = 0 ∨ q = 1 ∨ q = 2 ∨ q = 3 ∨ q = 4 ∨ q = 5 ∨ q = 6 ∨ q = 7 := by omega
        rcases hq with rfl | rfl | rfl | rfl | rfl | rfl | rfl | rfl <;> simp [setI, setN, ItemR.cells] <;> (try split) <;> (try rfl) <;> omega
    · rw [if_neg (by omega)]
      simp [setI, ei]
  · rw [List.getElem?_eq_none (by rw [List.length_set, flatI_len]; omega), List.getElem?_eq_none (by rw [flatI_len]; omega)]
theorem Items.of_own {X : World} {y : Ext} {A : Option Addr} {n c : Nat} {L : Nat → ItemR} (hn : n ≤ 1048576) (h : OwnItems X y (.slice A n c) n L) : Items (X.ext y) (.slice A n c) ((List.range n).map L) := by
  obtain ⟨h1, h2⟩ := h
  refine ⟨by simpa using hn, A, c, by simp, fun i x hx => ?_⟩
  have hi : i < n := by simpa using (List.getElem?_eq_some_iff.1 hx).1
  rw [List.getElem?_map, List.getElem?_range hi] at hx
  simp only [Option.map_some, Option.some.injEq] at hx
  subst hx
  obtain ⟨⟨B, e, hd⟩, d2, d3, d4⟩ := h2 i hi
  refine ⟨by rw [hd] at d2 ⊢; exact Ents.of_own d4 d3 rfl d2, ?_⟩
  obtain ⟨g, rfl, hg, hlt, hc⟩ := h1.at_ (by omega)
  refine ⟨g, 0, rfl, hlt, ?_⟩
  have hk : ∀ k, k < 8 → (X.ext y).cell? ⟨g, i * 8 + k, none⟩ = (L i).cells[k]? := fun k hk => ((hc (i * 8 + k) (by omega)).1).trans (flatI_get hk n hi)
  simp only [Nat.zero_add]
  exact ⟨hk 0 (by omega), hk 1 (by omega), hk 2 (by omega), hk 3 (by omega), hk 4 (by omega), hk 5 (by omega), hk 6 (by omega), hk 7 (by omega)⟩
theorem OwnItems.more {X : World} {y z : Ext} {v : Value} {n : Nat} {L : Nat → ItemR} (h : OwnItems X y v n L) (hw : ∃ q, X.ext z = (X.ext y).ext q) : OwnItems X z v n L :=
  ⟨h.1.more hw, fun j hj => ⟨(h.2 j hj).1, (h.2 j hj).2.1.more hw, (h.2 j hj).2.2⟩⟩
theorem OwnItems.beside {X : World} {y z : Ext} {v v' : Value} {n n' : Nat} {L : Nat → ItemR} {xs' : List Value} (h : OwnItems X y v n L) (h' : Own X y 35 4 v' n' xs') (hg : (X.ext y).grownBy (X.ext z) v'.ownBlock) : OwnItems X z v n L :=
  ⟨h.1.beside h' (by decide) hg, fun j hj => ⟨(h.2 j hj).1, (h.2 j hj).2.1.beside h' (by decide) hg, (h.2 j hj).2.2⟩⟩
theorem OwnItems.stored {X : World} {y : Ext} {g c n : Nat} {L : Nat → ItemR} (h : OwnItems X y (.slice (some ⟨g, 0, none⟩) n c) n L) (hg : X.heap.size ≤ g) {i p : Nat} (hi : i < n) (hp : p < 4) (v : Int) :
    ∃ z, (X.ext y).setCell ⟨g, i * 8 + (4 + p), none⟩ (.int .u32 v) = X.ext z ∧ OwnItems X z (.slice (some ⟨g, 0, none⟩) n c) n (setI L i p v) ∧ (X.ext y).grownBy (X.ext z) (some g) := by
  obtain ⟨z, hz, ho, hgr⟩ := Own.stored h.1 hg (i * 8 + (4 + p)) (.int .u32 v)
  rw [flatI_set hp hi] at ho
  refine ⟨z, hz, ⟨ho, fun j hj => ?_⟩, hgr⟩
  obtain ⟨d1, d2, d3⟩ := h.2 j hj
  have e1 : (setI L i p v j).data = (L j).data := by unfold setI; split <;> simp_all
  have e2 : (setI L i p v j).ents = (L j).ents := by unfold setI; split <;> simp_all
  rw [e1, e2]
  exact ⟨d1, d2.beside h.1 (by decide) hgr, d3⟩

theorem tmod4 (x : Int) (h : 0 ≤ x) : ∃ r : Nat, r < 4 ∧ Int.tmod x 4 = r := ⟨(x.tmod 4).toNat, by have := Int.tmod_lt_of_pos x (show (0 : Int) < 4 by omega); omega, by have := Int.tmod_nonneg 4 h; omega⟩

set_option maxRecDepth 100000 in
set_option maxHeartbeats 8000000 in
theorem walkTurned (t : TxR) (vv : Value) (by_ : Int) (n : Nat) (fr : Nat → Nat → Int) (w : World) (hi : Items w t.data t.items) (hw : WfTx t) (hv : Votes w vv n fr) (hb : (Lit.int .i64 by_).wf = true) :
    Calls Try.prog 6 #[t.val, vv, .int .i64 by_] w (Gives w (.bool true)) := by
  have C0 := Lib.hid (fun W (h : Items W t.data t.items) => ref18_Own t W h)
  have C1 := Lib.hid (fun W v (h : Items W t.data t.items) (h' : Votes W v n fr) => votes_Decide t v n fr W h hw h')
  have C2 := Lib.hid (fun W v (l' : List ItemR) (dv : Value) g (h : Items W dv l') (h' : Votes W v n g) => votes_Decide ⟨t.id, t.client, t.m0, t.m1, t.m2, dv, l'⟩ v n g W h hw h')
  have SAME := Lib.hid (fun (r : Nat) (hr : r < 4) (l' : List ItemR) (dv : Value) (g : Nat → Nat → Int) (h1 : TurnedItems r t.items l') (h2 : ∀ k, k < n → Turned r (fr k) (g k)) => turned_same (id := t.id) (client := t.client) (m0 := t.m0) (m1 := t.m1) (m2 := t.m2) (d := t.data) (d' := dv) hr h1 h2)
  obtain ⟨id, client, m0, m1, m2, data, l⟩ := t
  simp only at hi C0 C1 C2 SAME
  obtain ⟨dd, hdd⟩ : ∃ d, d = decide18 (TxR.right ⟨id, client, m0, m1, m2, data, l⟩) n l.length fr (incsOf l) := ⟨_, rfl⟩
  rw [← hdd] at C1 SAME
  clear hdd
  unfold TxR.val at *
  simp only at C0 C1 C2 ⊢
  have HI := Lib.hid hi
  have HV := Lib.hid hv
  clear hw
  obtain ⟨hl, A, c, rfl, hc⟩ := hi
  obtain ⟨hn, B, e, rfl, hvc⟩ := hv
  have HC := Lib.hid hc
  have HVC := Lib.hid hvc
  clear hc hvc
  obtain ⟨q1, q2, q3, q4, q5, q6⟩ := roomy (b := w.heap.size) (s := w.heap.size + 1) (by omega)
  obtain ⟨i0, hi0, hz0, hz1, hz2⟩ := info_parts infoRow
  obtain ⟨bx, hbx, hbx0⟩ : ∃ bx : Int, bx = (if by_ < 0 then -(by_ + 1) else by_) ∧ 0 ≤ bx := ⟨_, rfl, by split <;> omega⟩
  obtain ⟨r, hr, hr2⟩ := tmod4 bx hbx0
  have hW1 : by_ < 0 → wrap64 (-wrap64 (by_ + 1)) = bx := fun hn => by
    rw [if_pos hn] at hbx
    have hb' := bounds_i64 hb
    rw [hbx]
    unfold wrap64
    omega
  have hW2 : ¬ by_ < 0 → by_ = bx := fun hn => by rw [if_neg hn] at hbx; exact hbx.symm
  have HR2 := Lib.hid hr2
  have HR3 : Hid (bx % 4 = r) := Lib.hid (by rw [Int.tmod_eq_emod_of_nonneg hbx0] at hr2; exact hr2)
  have HW1 := Lib.hid hW1
  have HW2 := Lib.hid hW2
  clear hb hr2 hbx hbx0 hW1 hW2
  go_enter Try.func6, Try.ntmps6
  by_cases hneg : by_ < 0
  all_goals
    go_wp2_with fail
    first | rw [HW1.out hneg, HR2.out] | rw [HW2.out hneg, HR3.out]
    clear hneg HR2 HR3 HW1 HW2
    refine (C0.out _ (HI.out.alloc _)).mono ?_
    rintro e0 w1 ⟨y0, v0, L0, rfl, rfl, ⟨G, cp, rfl⟩, hown0, hL0⟩
    have HOWN0 := Lib.hid hown0
    have HL0 := Lib.hid hL0
    clear hown0 hL0
    have hub : ∃ ub z, (w.alloc (.cells #[.int .u64 id, .int .i64 client, .int .i64 m0, .int .i64 m1, .int .i64 m2, .slice A l.length c] 26)).heap.size ≤ ub ∧ ub = w.heap.size + 1 + y0.objs.size ∧ ((w.alloc (.cells #[.int .u64 id, .int .i64 client, .int .i64 m0, .int .i64 m1, .int .i64 m2, .slice A l.length c] 26)).ext y0).alloc (.cells #[.int .u64 id, .int .i64 client, .int .i64 m0, .int .i64 m1, .int .i64 m2, .slice G l.length cp] 26) = (w.alloc (.cells #[.int .u64 id, .int .i64 client, .int .i64 m0, .int .i64 m1, .int .i64 m2, .slice A l.length c] 26)).ext z ∧ ((w.alloc (.cells #[.int .u64 id, .int .i64 client, .int .i64 m0, .int .i64 m1, .int .i64 m2, .slice A l.length c] 26)).ext z).heap[ub]? = some (.cells #[.int .u64 id, .int .i64 client, .int .i64 m0, .int .i64 m1, .int .i64 m2, .slice G l.length cp] 26) ∧ (∃ q, (w.alloc (.cells #[.int .u64 id, .int .i64 client, .int .i64 m0, .int .i64 m1, .int .i64 m2, .slice A l.length c] 26)).ext z = ((w.alloc (.cells #[.int .u64 id, .int .i64 client, .int .i64 m0, .int .i64 m1, .int .i64 m2, .slice A l.length c] 26)).ext y0).ext q) := by
      refine ⟨_, ⟨y0.objs.push (.cells #[.int .u64 id, .int .i64 client, .int .i64 m0, .int .i64 m1, .int .i64 m2, .slice G l.length cp] 26), y0.n⟩, ?_, rfl, ext_alloc, ?_, ⟨_, ext_alloc.symm.trans (ext_alloc_ext _ _)⟩⟩
      · simp
      · rw [← ext_alloc]; exact hp_new (by simp [size_ext])
    obtain ⟨ub, z0, hub1, hub2, hub3, hub4, hub5⟩ := hub
    have HO1 := Lib.hid (HOWN0.out.more hub5)
    have HU := Lib.hid hub4
    have HUE := Lib.hid hub3
    have HUB := Lib.hid hub2
    clear hub2 hub3 hub4 hub5 HOWN0 C0
    go_upto_region 5 with fail
    rw [HUE.out, ← HUB.out]
    clear HUE HUB
    go_wp2_with fail
    go_loopw [8, 9] (fun s8 s9 wr => ∃ (i : Nat) (y : Ext) (vm : Value) (g : Nat → Nat → Int), i ≤ n ∧ s9 = .int .i64 i ∧ s8 = vm ∧ wr = (w.alloc (.cells #[.int .u64 id, .int .i64 client, .int .i64 m0, .int .i64 m1, .int .i64 m2, .slice A l.length c] 26)).ext y ∧
      Hid (((w.alloc (.cells #[.int .u64 id, .int .i64 client, .int .i64 m0, .int .i64 m1, .int .i64 m2, .slice A l.length c] 26)).ext y).heap[ub]? = some (.cells #[.int .u64 id, .int .i64 client, .int .i64 m0, .int .i64 m1, .int .i64 m2, .slice G l.length cp] 26)) ∧ Hid (OwnItems (w.alloc (.cells #[.int .u64 id, .int .i64 client, .int .i64 m0, .int .i64 m1, .int .i64 m2, .slice A l.length c] 26)) y (.slice G l.length cp) l.length L0) ∧ Hid (Own (w.alloc (.cells #[.int .u64 id, .int .i64 client, .int .i64 m0, .int .i64 m1, .int .i64 m2, .slice A l.length c] 26)) y 35 4 vm i (flat g i)) ∧ Hid (∀ k, k < i → Turned r (fr k) (g k))) (fun _ s9 _ => n - (intOf s9).toNat)
    case atStart => exact ⟨0, z0, _, fun _ _ => 0, by omega, rfl, rfl, rfl, HU, HO1, Lib.hid Own.nil, Lib.hid (fun k hk => by omega)⟩
    case round =>
      clear HU HO1
      obtain ⟨i, y, vm, g, hi, rfl, rfl, rfl, HU, HO1, HM, HT⟩ := hrel
      by_cases hlt : i < n
      case neg =>
        obtain rfl : n = i := by omega
        obtain ⟨MG, mcp, rfl⟩ := own_shape HM.out
        have kU : ((w.alloc (.cells #[.int .u64 id, .int .i64 client, .int .i64 m0, .int .i64 m1, .int .i64 m2, .slice A l.length c] 26)).ext y).cell? ⟨ub, 5, none⟩ = some (.slice G l.length cp) := (cell_of_heap HU.out).trans rfl
        go_wp2_with fail
        go_loopw [12] (fun s12 wr => ∃ (i : Nat) (y : Ext) (L : Nat → ItemR), i ≤ l.length ∧ s12 = .int .i64 i ∧ wr = (w.alloc (.cells #[.int .u64 id, .int .i64 client, .int .i64 m0, .int .i64 m1, .int .i64 m2, .slice A l.length c] 26)).ext y ∧
          Hid (((w.alloc (.cells #[.int .u64 id, .int .i64 client, .int .i64 m0, .int .i64 m1, .int .i64 m2, .slice A l.length c] 26)).ext y).heap[ub]? = some (.cells #[.int .u64 id, .int .i64 client, .int .i64 m0, .int .i64 m1, .int .i64 m2, .slice G l.length cp] 26)) ∧ Hid (OwnItems (w.alloc (.cells #[.int .u64 id, .int .i64 client, .int .i64 m0, .int .i64 m1, .int .i64 m2, .slice A l.length c] 26)) y (.slice G l.length cp) l.length L) ∧ Hid (Own (w.alloc (.cells #[.int .u64 id, .int .i64 client, .int .i64 m0, .int .i64 m1, .int .i64 m2, .slice A l.length c] 26)) y 35 4 (.slice MG n mcp) n (flat g n)) ∧
          Hid (∀ j x, l[j]? = some x → ∃ dv ii, L j = { x with data := dv, inc := ii } ∧ (j < i → Turned r x.inc ii))) (fun s12 _ => l.length - (intOf s12).toNat)
        case atStart => exact ⟨0, y, L0, by omega, rfl, rfl, HU, HO1, HM, Lib.hid (fun j x hx => by obtain ⟨dv, e⟩ := HL0.out j x hx; exact ⟨dv, x.inc, e, fun hj => by omega⟩)⟩
        case round =>
          clear HU HO1 HM HL0 kU
          obtain ⟨i, y, L, hi, rfl, rfl, HU, HO1, HM, HL⟩ := hrel
          have kU : ((w.alloc (.cells #[.int .u64 id, .int .i64 client, .int .i64 m0, .int .i64 m1, .int .i64 m2, .slice A l.length c] 26)).ext y).cell? ⟨ub, 5, none⟩ = some (.slice G l.length cp) := (cell_of_heap HU.out).trans rfl
          by_cases hlt : i < l.length
          case neg =>
            obtain rfl : i = l.length := by omega
            have kk := fun i => cell_of_heap (i := i) HU.out
            have k0 : ((w.alloc (.cells #[.int .u64 id, .int .i64 client, .int .i64 m0, .int .i64 m1, .int .i64 m2, .slice A l.length c] 26)).ext y).cell? ⟨ub, 0, none⟩ = some (.int .u64 id) := (kk 0).trans rfl
            have k1 : ((w.alloc (.cells #[.int .u64 id, .int .i64 client, .int .i64 m0, .int .i64 m1, .int .i64 m2, .slice A l.length c] 26)).ext y).cell? ⟨ub, 1, none⟩ = some (.int .i64 client) := (kk 1).trans rfl
            have k2 : ((w.alloc (.cells #[.int .u64 id, .int .i64 client, .int .i64 m0, .int .i64 m1, .int .i64 m2, .slice A l.length c] 26)).ext y).cell? ⟨ub, 2, none⟩ = some (.int .i64 m0) := (kk 2).trans rfl
            have k3 : ((w.alloc (.cells #[.int .u64 id, .int .i64 client, .int .i64 m0, .int .i64 m1, .int .i64 m2, .slice A l.length c] 26)).ext y).cell? ⟨ub, 3, none⟩ = some (.int .i64 m1) := (kk 3).trans rfl
            have k4 : ((w.alloc (.cells #[.int .u64 id, .int .i64 client, .int .i64 m0, .int .i64 m1, .int .i64 m2, .slice A l.length c] 26)).ext y).cell? ⟨ub, 4, none⟩ = some (.int .i64 m2) := (kk 4).trans rfl
            have hl' : TurnedItems r l ((List.range l.length).map L) := ⟨by simp, fun j x x' hx hx' => by
              have hj := (List.getElem?_eq_some_iff.1 hx).1
              obtain ⟨dv, ii, e, h⟩ := HL.out j x hx
              rw [List.getElem?_map, List.getElem?_range hj] at hx'
              simp only [Option.map_some, Option.some.injEq] at hx'
              subst hx'
              rw [e]
              exact ⟨rfl, rfl, rfl, rfl, h hj⟩⟩
            have hs := SAME.out r hr _ (.slice G l.length cp) g hl' HT.out
            have HI2 := Lib.hid (Items.of_own hl HO1.out)
            have HV2 := Lib.hid (Votes.of_own hn HM.out)
            have c3 := fun W (h : Items W _ _) (h' : Votes W (.slice MG n mcp) n g) => C2.out W _ ((List.range l.length).map L) (.slice G l.length cp) g h h'
            rw [hs] at c3
            have C3 := Lib.hid c3
            obtain ⟨d1, d2⟩ := dd
            have hubl : ub < w.heap.size + 1 + y.objs.size := by have := lt_of_heap HU.out; simpa [size_ext] using this
            clear kk hl' hs c3 HL HT HM HO1 HU SAME C2
            go_wp2_with fail
            refine (C1.out _ _ (HI.out.alloc _).ext (HV.out.alloc _).ext).mono ?_
            rintro e w1 ⟨rfl, y3, rfl⟩
            clear C1
            go_wp2_with fail
            refine (C3.out _ HI2.out.ext HV2.out.ext).mono ?_
            rintro e w1 ⟨rfl, y4, rfl⟩
            clear C3
            go_wp2_with (go_at_call 11; refine (law_alive _).mono ?_; rintro e w1 ⟨rfl, y5, rfl⟩)
            go_ret
            exact .mk (by simp) (by simp only [ext_ext]; exact below_of_ext ((Below.refl _ _).alloc (Nat.le_refl _) _) (by (try simp only [World.size_alloc, size_ext, World.size_setCell]); omega))
          go_wp2_with fail
          go_loopw [13] (fun s13 wr => ∃ (k : Nat) (y : Ext) (L : Nat → ItemR), k ≤ 4 ∧ s13 = .int .i64 k ∧ wr = (w.alloc (.cells #[.int .u64 id, .int .i64 client, .int .i64 m0, .int .i64 m1, .int .i64 m2, .slice A l.length c] 26)).ext y ∧
            Hid (((w.alloc (.cells #[.int .u64 id, .int .i64 client, .int .i64 m0, .int .i64 m1, .int .i64 m2, .slice A l.length c] 26)).ext y).heap[ub]? = some (.cells #[.int .u64 id, .int .i64 client, .int .i64 m0, .int .i64 m1, .int .i64 m2, .slice G l.length cp] 26)) ∧ Hid (OwnItems (w.alloc (.cells #[.int .u64 id, .int .i64 client, .int .i64 m0, .int .i64 m1, .int .i64 m2, .slice A l.length c] 26)) y (.slice G l.length cp) l.length L) ∧ Hid (Own (w.alloc (.cells #[.int .u64 id, .int .i64 client, .int .i64 m0, .int .i64 m1, .int .i64 m2, .slice A l.length c] 26)) y 35 4 (.slice MG n mcp) n (flat g n)) ∧
            Hid (∀ j x, l[j]? = some x → ∃ dv ii, L j = { x with data := dv, inc := ii } ∧ (j < i → Turned r x.inc ii) ∧ (j = i → ∀ q, q < k → ii ((q + r) % 4) = x.inc q))) (fun s13 _ => 4 - (intOf s13).toNat)
          case atStart => exact ⟨0, y, L, by omega, rfl, rfl, HU, HO1, HM, Lib.hid (fun j x hx => by obtain ⟨dv, ii, e, hh⟩ := HL.out j x hx; exact ⟨dv, ii, e, hh, fun _ q hq => by omega⟩)⟩
          case round =>
            clear HU HO1 HM HL kU
            obtain ⟨k, y, L, hk, rfl, rfl, HU, HO1, HM, HL⟩ := hrel
            have kU : ((w.alloc (.cells #[.int .u64 id, .int .i64 client, .int .i64 m0, .int .i64 m1, .int .i64 m2, .slice A l.length c] 26)).ext y).cell? ⟨ub, 5, none⟩ = some (.slice G l.length cp) := (cell_of_heap HU.out).trans rfl
            by_cases hk4 : k < 4
            case neg =>
              obtain rfl : k = 4 := by omega
              go_wp2
              go_roundw
              case rel => exact ⟨i + 1, y, L, by omega, by go_num, rfl, HU, HO1, HM, Lib.hid (fun j x hx => by
                obtain ⟨dv, ii, e, h1, h2⟩ := HL.out j x hx
                refine ⟨dv, ii, e, fun hj => ?_⟩
                rcases Nat.lt_succ_iff_lt_or_eq.1 hj with h | h
                · exact h1 h
                · exact fun q hq => h2 h q hq)⟩
              case measure => simp [intOf]; omega
            have hp4 : (k + r) % 4 < 4 := Nat.mod_lt _ (by omega)
            have hd : ∃ q, (w.alloc (.cells #[.int .u64 id, .int .i64 client, .int .i64 m0, .int .i64 m1, .int .i64 m2, .slice A l.length c] 26)).ext ⟨y.objs, y.n + 1⟩ = ((w.alloc (.cells #[.int .u64 id, .int .i64 client, .int .i64 m0, .int .i64 m1, .int .i64 m2, .slice A l.length c] 26)).ext y).ext q := ⟨⟨#[], y.n + 1⟩, by rw [ext_ext]; simp⟩
            have kD : ((w.alloc (.cells #[.int .u64 id, .int .i64 client, .int .i64 m0, .int .i64 m1, .int .i64 m2, .slice A l.length c] 26)).ext ⟨y.objs, y.n + 1⟩).cell? ⟨ub, 5, none⟩ = some (.slice G l.length cp) := kU
            replace HO1 := Lib.hid (HO1.out.more hd)
            replace HM := Lib.hid (HM.out.more hd)
            replace HU : Hid (((w.alloc (.cells #[.int .u64 id, .int .i64 client, .int .i64 m0, .int .i64 m1, .int .i64 m2, .slice A l.length c] 26)).ext ⟨y.objs, y.n + 1⟩).heap[ub]? = some (.cells #[.int .u64 id, .int .i64 client, .int .i64 m0, .int .i64 m1, .int .i64 m2, .slice G l.length cp] 26)) := Lib.hid HU.out
            clear hd
            have hx : l[i]? = some l[i] := List.getElem?_eq_getElem hlt
            obtain ⟨_, b, off, rfl, hbb, _, _, _, _, c4, c5, c6, c7⟩ := HC.out i _ hx
            obtain ⟨r1, r2, r3, r4, r5, r6⟩ := roomy hbb
            have HX := Lib.hid hx
            clear hx
            generalize l[i] = x at *
            have c1 : w.cell? ⟨b, off + i * 8 + 4 + k, none⟩ = some (.int .u32 (x.inc k)) := by
              have hcase : k = 0 ∨ k = 1 ∨ k = 2 ∨ k = 3 := by omega
              rcases hcase with rfl | rfl | rfl | rfl
              · exact c4
              · exact c5
              · exact c6
              · exact c7
            clear c4 c5 c6 c7
            obtain ⟨gb, rfl, hgb, hgl, hcc⟩ := HO1.out.1.at_ (by omega)
            obtain ⟨c2, c3⟩ := hcc (i * 8 + (4 + (k + r) % 4)) (by omega)
            rw [flatI_get (by omega) _ hlt] at c2
            have c2' : ∃ u, ((w.alloc (.cells #[.int .u64 id, .int .i64 client, .int .i64 m0, .int .i64 m1, .int .i64 m2, .slice (some ⟨b, off, none⟩) l.length c] 26)).ext ⟨y.objs, y.n + 1⟩).cell? ⟨gb, i * 8 + 4 + (k + r) % 4, none⟩ = some (.int .u32 u) := by
              rw [Nat.add_assoc, c2]
              generalize (k + r) % 4 = p at *
              have hcase : p = 0 ∨ p = 1 ∨ p = 2 ∨ p = 3 := by omega
              rcases hcase with rfl | rfl | rfl | rfl <;> exact ⟨_, rfl⟩
            obtain ⟨u, c2'⟩ := c2'
            rw [← Nat.add_assoc] at c3
            obtain ⟨z2, hz2, ho2, hg2⟩ := HO1.out.stored hgb hlt hp4 (x.inc k)
            rw [← Nat.add_assoc] at hz2
            have HZ := Lib.hid hz2
            have HO2 := Lib.hid ho2
            have HM2 : Hid (Own (w.alloc (.cells #[.int .u64 id, .int .i64 client, .int .i64 m0, .int .i64 m1, .int .i64 m2, .slice (some ⟨b, off, none⟩) l.length c] 26)) z2 35 4 (.slice MG n mcp) n (flat g n)) := Lib.hid (HM.out.beside HO1.out.1 (by decide) hg2)
            have HU2 : Hid (((w.alloc (.cells #[.int .u64 id, .int .i64 client, .int .i64 m0, .int .i64 m1, .int .i64 m2, .slice (some ⟨b, off, none⟩) l.length c] 26)).ext z2).heap[ub]? = some (.cells #[.int .u64 id, .int .i64 client, .int .i64 m0, .int .i64 m1, .int .i64 m2, .slice (some ⟨gb, 0, none⟩) l.length cp] 26)) := Lib.hid ((hg2.block _ (lt_of_heap HU.out) (fun e => HO1.out.1.apart HU.out (by decide) e.symm)).trans HU.out)
            clear hcc c2 hz2 ho2 hg2
            go_upto_region 21 with fail
            go_region
            go_wp2
            go_roundw
            case rel =>
              refine ⟨k + 1, z2, _, by omega, by go_num, HZ.out, HU2, HO2, HM2, Lib.hid (fun j x' hx' => ?_)⟩
              obtain ⟨dv, ii, e, h1, h2⟩ := HL.out j x' hx'
              by_cases ej : j = i
              · subst ej
                obtain rfl : x = x' := by have h := HX.out; rw [hx'] at h; injection h with h; exact h.symm
                refine ⟨dv, setN ii ((k + r) % 4) (x.inc k), by simp [setI, e], fun hj => by omega, fun _ q hq => ?_⟩
                unfold setN
                by_cases eq : q = k
                · subst eq; simp
                · rw [if_neg (by omega)]; exact h2 rfl q (by omega)
              · exact ⟨dv, ii, by simp [setI, ej, e], h1, fun h => absurd h ej⟩
            case measure => simp [intOf]; omega
      obtain ⟨b, off, rfl, hbb, c0, c1, c2, c3⟩ := HVC.out i hlt
      obtain ⟨r1, r2, r3, r4, r5, r6⟩ := roomy hbb
      have hcell : ∀ k, k < 4 → w.cell? ⟨b, off + i * 4 + k, none⟩ = some (.int .i64 (fr i k)) := by
        intro k hk
        have hcase : k = 0 ∨ k = 1 ∨ k = 2 ∨ k = 3 := by omega
        rcases hcase with rfl | rfl | rfl | rfl <;> assumption
      have HCELL := Lib.hid hcell
      clear c0 c1 c2 c3 hcell
      go_wp2_with fail
      go_loopw [11] (fun s11 wr => ∃ (k : Nat) (z : Ext) (h : Nat → Int), k ≤ 4 ∧ s11 = .int .i64 k ∧ wr = ((w.alloc (.cells #[.int .u64 id, .int .i64 client, .int .i64 m0, .int .i64 m1, .int .i64 m2, .slice A l.length c] 26)).ext y).ext z ∧
        Hid ((((w.alloc (.cells #[.int .u64 id, .int .i64 client, .int .i64 m0, .int .i64 m1, .int .i64 m2, .slice A l.length c] 26)).ext y).ext z).heap[w.heap.size + 1 + y.objs.size]? = some (.cells #[.int .i64 (h 0), .int .i64 (h 1), .int .i64 (h 2), .int .i64 (h 3)] 35)) ∧ Hid (∀ j, j < k → h ((j + r) % 4) = fr i j)) (fun s11 _ => 4 - (intOf s11).toNat)
      case atStart => exact ⟨0, _, fun _ => 0, by omega, rfl, ext_alloc_ext _ _, Lib.hid (by rw [← ext_alloc_ext]; exact hp_new (by simp [size_ext])), Lib.hid (fun j hj => by omega)⟩
      case round =>
        obtain ⟨k, z, h, hk, rfl, rfl, hrow, hh⟩ := hrel
        by_cases hk4 : k < 4
        case neg =>
          obtain rfl : k = 4 := by omega
          have kk := fun i => cell_of_heap (i := i) hrow.out
          have k0 := (kk 0).trans (row4_at h (by omega))
          have k1 := (kk 1).trans (row4_at h (by omega))
          have k2 := (kk 2).trans (row4_at h (by omega))
          have k3 := (kk 3).trans (row4_at h (by omega))
          have hsrc : Src ((((w.alloc (.cells #[.int .u64 id, .int .i64 client, .int .i64 m0, .int .i64 m1, .int .i64 m2, .slice A l.length c] 26)).ext y).ext z).alloc (.cells [.int .i64 (h 0), .int .i64 (h 1), .int .i64 (h 2), .int .i64 (h 3)].toArray 35)) (some ⟨w.heap.size + 1 + y.objs.size + z.objs.size, 0, none⟩) 4 1 [.int .i64 (h 0), .int .i64 (h 1), .int .i64 (h 2), .int .i64 (h 3)] := ⟨rfl, fun _ => ⟨_, 0, rfl, src_new (by simp [size_ext])⟩⟩
          have hq : ∃ q, (((w.alloc (.cells #[.int .u64 id, .int .i64 client, .int .i64 m0, .int .i64 m1, .int .i64 m2, .slice A l.length c] 26)).ext y).ext z).alloc (.cells [.int .i64 (h 0), .int .i64 (h 1), .int .i64 (h 2), .int .i64 (h 3)].toArray 35) = (w.alloc (.cells #[.int .u64 id, .int .i64 client, .int .i64 m0, .int .i64 m1, .int .i64 m2, .slice A l.length c] 26)).ext q ∧ ∃ q', (w.alloc (.cells #[.int .u64 id, .int .i64 client, .int .i64 m0, .int .i64 m1, .int .i64 m2, .slice A l.length c] 26)).ext q = ((w.alloc (.cells #[.int .u64 id, .int .i64 client, .int .i64 m0, .int .i64 m1, .int .i64 m2, .slice A l.length c] 26)).ext y).ext q' := ⟨_, by rw [ext_ext, ext_alloc], _, by rw [← ext_alloc, ← ext_ext, ext_alloc]⟩
          obtain ⟨q, hq1, hq2⟩ := hq
          have HS := Lib.hid hsrc
          have HQ := Lib.hid hq1
          have HM2 := Lib.hid (HM.out.more hq2)
          have HO2 := Lib.hid (HO1.out.more hq2)
          have HU2 : Hid (((w.alloc (.cells #[.int .u64 id, .int .i64 client, .int .i64 m0, .int .i64 m1, .int .i64 m2, .slice A l.length c] 26)).ext q).heap[ub]? = some (.cells #[.int .u64 id, .int .i64 client, .int .i64 m0, .int .i64 m1, .int .i64 m2, .slice G l.length cp] 26)) := Lib.hid (by obtain ⟨q', e⟩ := hq2; rw [e]; exact (heap_ext (lt_of_heap HU.out)).trans HU.out)
          clear kk hsrc hq1 hq2 HM HO1 HU
          go_wp2_with (at_builtin; refine wpList_append_ext rfl _ _ _ rfl (X := (w.alloc (.cells #[.int .u64 id, .int .i64 client, .int .i64 m0, .int .i64 m1, .int .i64 m2, .slice A l.length c] 26))) (y := q) HQ.out i0 _ 32 Try.underlying27 hi0 hz0 hz1 hz2 rfl (by omega) rfl HM2.out (some ⟨w.heap.size + 1 + y.objs.size + z.objs.size, 0, none⟩) 1 _ [.int .i64 (h 0), .int .i64 (h 1), .int .i64 (h 2), .int .i64 (h 3)] rfl HS.out (by simp [Value.oneCell']) (by unfold maxLen; omega) (by omega) ?_; intro v2 y2 hown2 hg2 hat2)
          go_roundw
          case rel =>
            have hg3 := hg2
            rw [HQ.out] at hg3
            refine ⟨i + 1, y2, v2, fun j => if j = i then h else g j, by omega, by go_num, rfl, rfl, Lib.hid ((hg3.block _ (lt_of_heap HU2.out) (fun e => HM2.out.apart HU2.out (by decide) e.symm)).trans HU2.out), Lib.hid (HO2.out.beside HM2.out hg3), Lib.hid ?_, Lib.hid ?_⟩
            · have e : flat (fun j => if j = i then h else g j) (i + 1) = flat g i ++ [.int .i64 (h 0), .int .i64 (h 1), .int .i64 (h 2), .int .i64 (h 3)] := by
                show flat _ i ++ _ = _
                rw [flat_congr (g := g) i (fun j hj => by simp [show j ≠ i by omega])]
                simp
              rw [e]
              exact hown2
            · intro j hj
              by_cases e : j = i
              · subst e
                simp only [if_true]
                exact fun k hk => hh.out k hk
              · simp only [e, if_false]
                exact HT.out j (by omega)
          case measure => simp [intOf]; omega
        have hp4 : (k + r) % 4 < 4 := Nat.mod_lt _ (by omega)
        have c1 := HCELL.out k hk4
        have c2 : (((w.alloc (.cells #[.int .u64 id, .int .i64 client, .int .i64 m0, .int .i64 m1, .int .i64 m2, .slice A l.length c] 26)).ext y).ext z).cell? ⟨w.heap.size + 1 + y.objs.size, (k + r) % 4, none⟩ = some (.int .i64 (h ((k + r) % 4))) := by rw [cell_of_heap hrow.out]; exact row4_at h hp4
        have c3 : (((w.alloc (.cells #[.int .u64 id, .int .i64 client, .int .i64 m0, .int .i64 m1, .int .i64 m2, .slice A l.length c] 26)).ext y).ext z).frozen? ⟨w.heap.size + 1 + y.objs.size, (k + r) % 4, none⟩ = false := frozen_of_heap hrow.out
        obtain ⟨z2, hz2⟩ := of_below (w := (w.alloc (.cells #[.int .u64 id, .int .i64 client, .int .i64 m0, .int .i64 m1, .int .i64 m2, .slice A l.length c] 26)).ext y) (w' := (((w.alloc (.cells #[.int .u64 id, .int .i64 client, .int .i64 m0, .int .i64 m1, .int .i64 m2, .slice A l.length c] 26)).ext y).ext z).setCell ⟨w.heap.size + 1 + y.objs.size, (k + r) % 4, none⟩ (.int .i64 (fr i k))) (below_ext.setCell (by simp [size_ext]) _)
        have hrow2 : (((w.alloc (.cells #[.int .u64 id, .int .i64 client, .int .i64 m0, .int .i64 m1, .int .i64 m2, .slice A l.length c] 26)).ext y).ext z2).heap[w.heap.size + 1 + y.objs.size]? = some (.cells #[.int .i64 (setN h ((k + r) % 4) (fr i k) 0), .int .i64 (setN h ((k + r) % 4) (fr i k) 1), .int .i64 (setN h ((k + r) % 4) (fr i k) 2), .int .i64 (setN h ((k + r) % 4) (fr i k) 3)] 35) := by
          rw [← hz2, ← row4_set h 0 hp4]; exact heap_setCell_same _ _ _ _ _ _ hrow.out
        have hh2 : ∀ j, j < k + 1 → setN h ((k + r) % 4) (fr i k) ((j + r) % 4) = fr i j := by
          intro j hj
          unfold setN
          by_cases e : j = k
          · subst e; simp
          · rw [if_neg (by omega)]; exact hh.out j (by omega)
        have HZ := Lib.hid hz2
        have HR2 := Lib.hid hrow2
        have HH2 := Lib.hid hh2
        clear hz2 hrow2 hh2 hrow hh
        go_wp2
        go_roundw
        case rel => exact ⟨k + 1, z2, _, by omega, by go_num, HZ.out, HR2, HH2⟩
        case measure => simp [intOf]; omega

theorem readVotesTurned_26 : Try.prog.readableRec 26 = true ∧ 26 < Try.prog.types.size := ⟨by kernel_rfl, of_decide_eq_true (by kernel_rfl)⟩
theorem readVotesTurned_27 : Try.prog.readableRec 27 = true ∧ 27 < Try.prog.types.size := ⟨by kernel_rfl, of_decide_eq_true (by kernel_rfl)⟩
theorem readVotesTurned_3 : Try.prog.readableRec 3 = true ∧ 3 < Try.prog.types.size := ⟨by kernel_rfl, of_decide_eq_true (by kernel_rfl)⟩
theorem ownVotesTurned : ownKnob Try.prog.godebug = none := by kernel_rfl
theorem laidOutVotesTurned : laidOutB Try.prog = true := by kernel_rfl
theorem contractVotesTurned (H : Type) (enc : TypeId × Value → H) (W : World) (base : Nat) (args : Array Value) (ds gs : List (DataW H)) (before : List MemPlace)
    (hval : ∀ (j : Nat) t v, Try.f6.params[j]? = some t → args[j]? = some v → Value.okWide Try.prog W .any base t v)
    (hW : DataW.Whole enc Try.prog Try.f6.params.toList Rows.votesTurnedSpec.vars false W args.toList ds gs before) (hk : Rows.uptoSmall H (ds ++ gs) = true) :
    Calls Try.prog 6 args W fun e W' => ∃ v, e = .returned v ∧ Rows.votesTurnedSpec.post enc Try.prog Try.f6 false true false false W args v W' := by
  have hfin : ∀ W', Below W.heap.size W W' → Rows.votesTurnedSpec.post enc Try.prog Try.f6 false true false false W args (.bool true) W' := fun W' hb =>
    post_of_walk (n := 3) (boolT := 4) rfl (fun ds h => by match ds, h with | [a0, a1, a2], _ => exact ⟨rfl, rfl, rfl⟩) rfl rfl Try.underlying4 laidOutVotesTurned (fun t ht => by rw [Try.params6] at ht; simp at ht; rcases ht with rfl | rfl | rfl; exact readVotesTurned_26; exact readVotesTurned_27; exact readVotesTurned_3) hW hb
  have hN : Rows.uptoBulkAll (ds ++ gs) ≤ 1048576 := of_decide_eq_true hk
  obtain ⟨p, q, hA, hV, rfl, hfz, hnd⟩ := hW
  rw [Try.params6] at hA hval
  obtain ⟨v0, vs0, d0, ds0, p0, q0, hargs, rfl, rfl, h0, r0⟩ := trodAll_cons hA
  obtain ⟨v1, vs1, d1, ds1, p1, q1, rfl, rfl, rfl, h1, r1⟩ := trodAll_cons r0
  obtain ⟨v2, vs2, d2, ds2, p2, q2, rfl, rfl, rfl, h2, r2⟩ := trodAll_cons r1
  obtain ⟨rfl, rfl, rfl⟩ := trodAll_nil r2
  obtain rfl : args = #[v0, v1, v2] := by cases args; simp_all
  simp only [List.cons_append, List.nil_append, Rows.uptoBulkAll] at hN
  obtain ⟨cs0, rfl, hs0⟩ := okWide_struct Try.underlying26 (hval 0 26 v0 rfl rfl)
  obtain ⟨f0, g0⟩ := h0
  have ty0 := typed_of_trod (N := 1048576) f0 _ _ _ g0 (by simp only; omega)
  obtain ⟨A1, len1, cap1, rfl⟩ := okWide_slice Try.underlying27 (hval 1 27 v1 rfl rfl)
  obtain ⟨f1, g1⟩ := h1
  have ty1 := typed_of_trod (N := 1048576) f1 _ _ _ g1 (by simp only; omega)
  obtain ⟨x2, rfl⟩ := okWide_int Try.underlying3 (hval 2 3 v2 rfl rfl)
  obtain ⟨f2, g2⟩ := h2
  have ty2 := typed_of_trod (N := 1048576) f2 _ _ _ g2 (by simp only; omega)
  obtain ⟨t, ht, hi, hw⟩ := read_tx (Nat.le_refl _) ty0
  obtain ⟨n, fr, hv⟩ := read_votes (Nat.le_refl _) ty1
  obtain ⟨x, hx, hwf⟩ := typed_int Try.underlying3 ty2
  have e0 : Value.agg cs0 = t.val := by
    unfold TxR.val
    congr 1
    apply Array.ext'
    simpa [Value.cells] using ht
  have e1 : x2 = x := by simpa [Value.cells] using hx
  subst e1
  rw [e0] at hfin ⊢
  exact (walkTurned t _ _ n fr W hi hw hv hwf).mono fun e W' ⟨he, y, hy⟩ => ⟨_, he, hfin W' (by rw [hy]; exact below_ext)⟩

set_option maxRecDepth 100000 in
theorem liftedVotesTurned (os : Os) (started : os.Started) (H : Type) (enc : TypeId × Value → H) (F : Stop.Interp) :
    ReturnsInHanded {} Try.checked os 6 .any ((Rows.OpenSpec.upto Rows.votesTurnedSpec).pre6 enc Try.prog Try.f6 Rows.votesTurnedUptoRow.domain false) (((Rows.OpenSpec.upto Rows.votesTurnedSpec).at F).post enc Try.prog Try.f6 false true false false) := by
  refine returnsInHanded_of_cond (C := Try.checked) (s := Rows.OpenSpec.upto Rows.votesTurnedSpec) (k := Rows.uptoSmall) rfl ownVotesTurned started (by kernel_rfl) Try.func6
    (OpenSpec.witness (enc := enc) (C := Try.checked) (s := Rows.OpenSpec.upto Rows.votesTurnedSpec) (k := Rows.uptoSmall) rfl false
      ⟨#[], #[.agg #[.int .u64 0, .int .i64 0, .int .i64 0, .int .i64 0, .int .i64 0, .slice none 0 0], .slice none 0 0, .int .i64 0], []⟩ 8 (by kernel_rfl) (by kernel_rfl) (by kernel_rfl)
      (x := ([.agg [.lit (.int .u64 0), .lit (.int .i64 0), .agg [.lit (.int .i64 0), .lit (.int .i64 0), .lit (.int .i64 0)], .nil], .nil, .lit (.int .i64 0)], [], [])) (by kernel_rfl) rfl (by kernel_rfl)) ?_
  intro W base args ds gs before hval hW _ hk _
  exact contractVotesTurned H enc W base args ds gs before hval hW hk

theorem VotesTurned_holds : Rows.VotesTurnedUptoSaid :=
  OpenClaim.holds_of_cond 6 Try.f6 rfl rfl rfl rfl rfl rfl rfl ⟨rfl, rfl, rfl, rfl, rfl⟩ rfl rfl rfl rfl rfl (by kernel_rfl) Try.func6 (by kernel_rfl)
    (of_decide_eq_true (by kernel_rfl)) (by unfold Func.isWrapper; first | (rw [if_pos (by decide +kernel)]; kernel_rfl) | (rw [if_neg (by decide +kernel)]; exact ⟨rfl, rfl⟩))
    (fun os started H enc _ F => liftedVotesTurned os started H enc F)
end Go.Proofs.Yteheajddplkmdaa
