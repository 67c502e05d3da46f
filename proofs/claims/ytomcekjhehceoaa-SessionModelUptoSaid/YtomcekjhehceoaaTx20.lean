/- WORDS on items and transactions; the document's Right. -/
import Derived.Test.YtomcekjhehceoaaItems
import Derived.Test.YtomcekjhehceoaaMaps
set_option linter.unusedVariables false
set_option linter.unusedSimpArgs false
namespace Go.Proofs.Ytomcekjhehceoaa
open Go.RowKit Go.Tk
def Items (w : World) (v : Value) (l : List ItemR) : Prop :=
  l.length ≤ 1048576 ∧ ∃ A c, v = .slice A l.length c ∧ ∀ i x, l[i]? = some x → Ents w x.data x.ents ∧ ∃ b off, A = some ⟨b, off, none⟩ ∧ b < w.heap.size ∧
    w.cell? ⟨b, off + i * 8, none⟩ = some (.int .i64 x.bucket) ∧ w.cell? ⟨b, off + i * 8 + 1, none⟩ = some (.int .u32 x.ver) ∧ w.cell? ⟨b, off + i * 8 + 2, none⟩ = some (.bool x.write) ∧
    w.cell? ⟨b, off + i * 8 + 3, none⟩ = some x.data ∧ w.cell? ⟨b, off + i * 8 + 4, none⟩ = some (.int .u32 (x.inc 0)) ∧ w.cell? ⟨b, off + i * 8 + 5, none⟩ = some (.int .u32 (x.inc 1)) ∧
    w.cell? ⟨b, off + i * 8 + 6, none⟩ = some (.int .u32 (x.inc 2)) ∧ w.cell? ⟨b, off + i * 8 + 7, none⟩ = some (.int .u32 (x.inc 3))
theorem Items.of {w w' : World} {v : Value} {l : List ItemR} (h : Items w v l) (hs : w.heap.size ≤ w'.heap.size) (hb : ∀ b o, b < w.heap.size → w'.cell? ⟨b, o, none⟩ = w.cell? ⟨b, o, none⟩) (he : ∀ x ∈ l, Ents w x.data x.ents → Ents w' x.data x.ents) : Items w' v l := by
  obtain ⟨h1, A, c, h3, h4⟩ := h
  refine ⟨h1, A, c, h3, fun i x hx => ?_⟩
  obtain ⟨h5, b, off, h6, h7, h8⟩ := h4 i x hx
  refine ⟨he x (List.mem_of_getElem? hx) h5, b, off, h6, by omega, ?_⟩
  simp only [hb b _ h7]
  exact h8
theorem Items.ext {w : World} {v : Value} {l : List ItemR} {x : Ext} (h : Items w v l) : Items (w.ext x) v l :=
  h.of (by rw [size_ext]; omega) (fun b o hb => cell?_ext hb) (fun _ _ he => he.ext)
theorem Items.alloc {w : World} {v : Value} {l : List ItemR} (o : Obj) (h : Items w v l) : Items (w.alloc o) v l :=
  h.of (by simp) (fun b i hb => World.cell?_alloc_lt _ _ _ hb) (fun _ _ he => he.alloc o)
theorem Ents.setMap {w : World} {v : Value} {l : List (ByteArray × ByteArray)} {b : Nat} {es : Array MapEntry} {c : Nat} (h : Ents w v l) : Ents (w.setMap b es c) v l := by
  obtain ⟨h1, h2, A, c', h3, h4⟩ := h
  refine ⟨h1, h2, A, c', h3, fun i e he => ?_⟩
  obtain ⟨b', off, h5, h6, h7⟩ := h4 i e he
  exact ⟨b', off, h5, by rw [size_setMap]; exact h6, by simp only [cell?_setMap]; exact h7⟩
theorem Items.setMap {w : World} {v : Value} {l : List ItemR} {b : Nat} {es : Array MapEntry} {c : Nat} (h : Items w v l) : Items (w.setMap b es c) v l :=
  h.of (by rw [size_setMap]; omega) (fun _ _ _ => cell?_setMap) (fun _ _ he => he.setMap)

structure TxR where
  id : Int
  client : Int
  m0 : Int
  m1 : Int
  m2 : Int
  data : Value
  items : List ItemR
def TxR.val (t : TxR) : Value := .agg #[.int .u64 t.id, .int .i64 t.client, .int .i64 t.m0, .int .i64 t.m1, .int .i64 t.m2, t.data]
def nodeOk (n : Int) : Bool := decide (0 ≤ n ∧ n < 12)
def itemOkAt (l : List ItemR) (k : Nat) : Bool :=
  match l[k]? with
  | none => true
  | some x => x.right && (match k with | 0 => true | j + 1 => (match l[j]? with | none => true | some p => decide (p.bucket < x.bucket)))
def itemsOk (l : List ItemR) : Bool := (List.range l.length).all (itemOkAt l)
def TxR.right (t : TxR) : Bool :=
  decide (t.id ≠ 0) && nodeOk t.client && decide (1 ≤ t.items.length) && decide (t.items.length ≤ 8) && nodeOk t.m0 && nodeOk t.m1 && nodeOk t.m2 &&
    decide (t.m0 ≠ t.m1 ∧ t.m0 ≠ t.m2 ∧ t.m1 ≠ t.m2) && itemsOk t.items
theorem itemsOk_yes {l : List ItemR} {k : Nat} (hk : l.length ≤ k) (h : ∀ j, j < k → itemOkAt l j = true) : itemsOk l = true := by
  unfold itemsOk
  rw [List.all_eq_true]
  exact fun x hx => h x (by have := List.mem_range.1 hx; omega)
theorem itemsOk_no {l : List ItemR} {k : Nat} (hk : k < l.length) (h : itemOkAt l k = false) : itemsOk l = false := by
  unfold itemsOk
  rw [List.all_eq_false]
  exact ⟨k, List.mem_range.2 hk, by simp [h]⟩
theorem itemOkAt_mk {l : List ItemR} {k : Nat} {x p : ItemR} (hx : l[k]? = some x) (hp : 0 < k → l[k - 1]? = some p) :
    itemOkAt l k = (x.right && (k == 0 || decide (p.bucket < x.bucket))) := by
  unfold itemOkAt
  rw [hx]
  cases k with
  | zero => simp
  | succ j => have := hp (by omega); simp at this; simp [this]
set_option maxRecDepth 100000 in
set_option maxHeartbeats 1000000 in
theorem ref18_Right (t : TxR) (w : World) (hi : Items w t.data t.items) : Calls Try.prog 16 #[t.val] w (Gives w (.bool t.right)) := by
  obtain ⟨r, hr⟩ : ∃ r, r = t.right := ⟨_, rfl⟩
  rw [← hr]
  unfold TxR.right at hr
  obtain ⟨id, client, m0, m1, m2, data, l⟩ := t
  simp only at hi
  unfold TxR.val
  simp only at hr ⊢
  have HI := Lib.hid hi
  have HR := Lib.hid hr
  clear hr
  obtain ⟨hl, A, c, rfl, hc⟩ := hi
  have HC := Lib.hid hc
  clear hc
  by_cases h0 : id = 0
  · subst h0
    go_enter Try.func16, Try.ntmps16
    go_wp2
    go_ret
    exact .mk (by rw [HR.out]; rfl) (((Below.refl _ _).alloc (Nat.le_refl _) _).alloc (by simp) _)
  have e1 : (id == 0) = false := by simp [h0]
  have H0 := Lib.hid h0
  clear h0
  by_cases hcl : 0 ≤ client ∧ client < 12
  case neg =>
    go_enter Try.func16, Try.ntmps16
    go_wp2
    all_goals
      go_ret
      exact .mk (vbool (by rw [HR.out]; simp [nodeOk]; omega)) (((Below.refl _ _).alloc (Nat.le_refl _) _).alloc (by simp) _)
  obtain ⟨hc1, hc2⟩ := hcl
  by_cases d1 : m0 = m1
  · subst d1
    go_enter Try.func16, Try.ntmps16
    go_wp2
    go_ret
    exact .mk (vbool (by rw [HR.out]; simp)) (((Below.refl _ _).alloc (Nat.le_refl _) _).alloc (by simp) _)
  have b1 : (m0 == m1) = false := by simp [d1]
  by_cases d2 : m0 = m2
  · subst d2
    go_enter Try.func16, Try.ntmps16
    go_wp2
    go_ret
    exact .mk (vbool (by rw [HR.out]; simp)) (((Below.refl _ _).alloc (Nat.le_refl _) _).alloc (by simp) _)
  have b2 : (m0 == m2) = false := by simp [d2]
  by_cases d3 : m1 = m2
  · subst d3
    go_enter Try.func16, Try.ntmps16
    go_wp2
    go_ret
    exact .mk (vbool (by rw [HR.out]; simp)) (((Below.refl _ _).alloc (Nat.le_refl _) _).alloc (by simp) _)
  have b3 : (m1 == m2) = false := by simp [d3]
  have HD := Lib.hid (show m0 ≠ m1 ∧ m0 ≠ m2 ∧ m1 ≠ m2 from ⟨d1, d2, d3⟩)
  clear d1 d2 d3
  by_cases hl1 : 1 ≤ l.length ∧ l.length ≤ 8
  case neg =>
    go_enter Try.func16, Try.ntmps16
    go_wp2
    all_goals
      go_ret
      exact .mk (vbool (by rw [HR.out]; simp; omega)) (((Below.refl _ _).alloc (Nat.le_refl _) _).alloc (by simp) _)
  obtain ⟨hl1, hl8⟩ := hl1
  obtain ⟨g1, g2, g3, g4, g5, g6⟩ := roomy (b := w.heap.size + 1) (s := w.heap.size + 2) (by omega)
  obtain ⟨q1, q2, q3, q4, q5, q6⟩ := roomy (b := w.heap.size) (s := w.heap.size + 2) (by omega)
  go_enter Try.func16, Try.ntmps16
  go_wp2
  go_loopw [4] (fun i wr => ∃ (k : Nat) (y : Ext), k ≤ 3 ∧ i = .int .i64 k ∧ wr = ((w.alloc (.cells #[.int .u64 id, .int .i64 client, .int .i64 m0, .int .i64 m1, .int .i64 m2, .slice A l.length c] 45)).alloc (.cells #[.int .i64 m0, .int .i64 m1, .int .i64 m2] 29)).ext y ∧ (k ≤ 0 ∨ nodeOk m0 = true) ∧ (k ≤ 1 ∨ nodeOk m1 = true) ∧ (k ≤ 2 ∨ nodeOk m2 = true)) (fun i _ => 3 - (intOf i).toNat)
  case atStart => exact ⟨0, _, by omega, rfl, ext_self, .inl (by omega), .inl (by omega), .inl (by omega)⟩
  case round =>
    obtain ⟨k, y, hk, rfl, rfl, ok0, ok1, ok2⟩ := hrel
    have O0 := Lib.hid ok0
    have O1 := Lib.hid ok1
    have O2 := Lib.hid ok2
    clear ok0 ok1 ok2
    have hcase : k = 0 ∨ k = 1 ∨ k = 2 ∨ k = 3 := by omega
    rcases hcase with rfl | rfl | rfl | rfl
    · by_cases hm : m0 < 0
      · go_wp2
        go_ret
        exact .mk (vbool (by rw [HR.out]; simp [nodeOk]; omega)) (below_of_ext (((Below.refl _ _).alloc (Nat.le_refl _) _).alloc (by simp) _) (by simp only [World.size_alloc]; omega))
      · by_cases hm' : m0 < 12
        · go_wp2
          go_roundw
          case rel => exact ⟨1, y, by omega, rfl, rfl, .inr (by simp [nodeOk]; omega), .inl (by omega), .inl (by omega)⟩
          case measure => simp [intOf]
        · go_wp2
          go_ret
          exact .mk (vbool (by rw [HR.out]; simp [nodeOk]; omega)) (below_of_ext (((Below.refl _ _).alloc (Nat.le_refl _) _).alloc (by simp) _) (by simp only [World.size_alloc]; omega))
    · by_cases hm : m1 < 0
      · go_wp2
        go_ret
        exact .mk (vbool (by rw [HR.out]; simp [nodeOk]; omega)) (below_of_ext (((Below.refl _ _).alloc (Nat.le_refl _) _).alloc (by simp) _) (by simp only [World.size_alloc]; omega))
      · by_cases hm' : m1 < 12
        · go_wp2
          go_roundw
          case rel => exact ⟨2, y, by omega, rfl, rfl, O0.out.imp (by omega) (fun h => h), .inr (by simp [nodeOk]; omega), .inl (by omega)⟩
          case measure => simp [intOf]
        · go_wp2
          go_ret
          exact .mk (vbool (by rw [HR.out]; simp [nodeOk]; omega)) (below_of_ext (((Below.refl _ _).alloc (Nat.le_refl _) _).alloc (by simp) _) (by simp only [World.size_alloc]; omega))
    · by_cases hm : m2 < 0
      · go_wp2
        go_ret
        exact .mk (vbool (by rw [HR.out]; simp [nodeOk]; omega)) (below_of_ext (((Below.refl _ _).alloc (Nat.le_refl _) _).alloc (by simp) _) (by simp only [World.size_alloc]; omega))
      · by_cases hm' : m2 < 12
        · go_wp2
          go_roundw
          case rel => exact ⟨3, y, by omega, rfl, rfl, O0.out.imp (by omega) (fun h => h), O1.out.imp (by omega) (fun h => h), .inr (by simp [nodeOk]; omega)⟩
          case measure => simp [intOf]
        · go_wp2
          go_ret
          exact .mk (vbool (by rw [HR.out]; simp [nodeOk]; omega)) (below_of_ext (((Below.refl _ _).alloc (Nat.le_refl _) _).alloc (by simp) _) (by simp only [World.size_alloc]; omega))
    · have HO : Hid (nodeOk m0 = true ∧ nodeOk m1 = true ∧ nodeOk m2 = true) := Lib.hid ⟨O0.out.resolve_left (by omega), O1.out.resolve_left (by omega), O2.out.resolve_left (by omega)⟩
      clear O0 O1 O2
      rw [show ((3 : Nat) : Int) = 3 from rfl]
      go_wp2
      go_loopw [5] (fun i wr => ∃ (k : Nat) (y : Ext), k ≤ l.length ∧ i = .int .i64 k ∧ wr = ((w.alloc (.cells #[.int .u64 id, .int .i64 client, .int .i64 m0, .int .i64 m1, .int .i64 m2, .slice A l.length c] 45)).alloc (.cells #[.int .i64 m0, .int .i64 m1, .int .i64 m2] 29)).ext y ∧ (∀ j, j < k → itemOkAt l j = true)) (fun i _ => l.length - (intOf i).toNat)
      case atStart => exact ⟨0, y, by omega, rfl, rfl, fun j hj => by omega⟩
      case round =>
        obtain ⟨k, y, hk, rfl, rfl, hall⟩ := hrel
        have HA := Lib.hid hall
        clear hall
        by_cases hlt : k < l.length
        · have hx : l[k]? = some l[k] := List.getElem?_eq_getElem hlt
          obtain ⟨he, b, off, rfl, hb, c0, c1, c2, c3, c4, c5, c6, c7⟩ := HC.out k _ hx
          obtain ⟨r1, r2, r3, r4, r5, r6⟩ := roomy hb
          obtain ⟨p, hp⟩ : ∃ p : ItemR, 0 < k → l[k - 1]? = some p ∧ w.cell? ⟨b, off + (k - 1) * 8, none⟩ = some (.int .i64 p.bucket) := by
            by_cases h0 : 0 < k
            · obtain ⟨_, b', off', e1, _, e2, _⟩ := HC.out (k - 1) _ (List.getElem?_eq_getElem (by omega))
              simp only [Option.some.injEq, Addr.mk.injEq, and_true] at e1
              obtain ⟨rfl, rfl⟩ := e1
              exact ⟨l[k - 1], fun _ => ⟨List.getElem?_eq_getElem (by omega), e2⟩⟩
            · exact ⟨l[k], fun h => absurd h h0⟩
          have hok := itemOkAt_mk hx (fun h => (hp h).1)
          have HN := Lib.hid (itemsOk_no hlt)
          generalize l[k] = x at *
          obtain ⟨ib, iv, iw, idd, ie, ii⟩ := x
          simp only at he c0 c1 c2 c3 c4 c5 c6 c7 hok
          have HE := Lib.hid he
          have cc : ∀ W, Ents W idd ie → Calls Try.prog 36 #[.agg #[.int .i64 ib, .int .u32 iv, .bool iw, idd, .int .u32 (ii 0), .int .u32 (ii 1), .int .u32 (ii 2), .int .u32 (ii 3)]] W (Gives W (.bool (ItemR.right ⟨ib, iv, iw, idd, ie, ii⟩))) := fun W h => ref15_Right ⟨ib, iv, iw, idd, ie, ii⟩ W h
          have C1 := Lib.hid cc
          clear cc
          obtain ⟨_, _, A', c', rfl, _⟩ := he
          clear hx
          generalize ItemR.right ⟨ib, iv, iw, .slice A' ie.length c', ie, ii⟩ = b1 at *
          have HOK := Lib.hid hok
          clear hok
          cases b1
          · clear hp
            go_wp2_with fail
            refine (C1.out _ (Ents.ext (Ents.alloc _ (Ents.alloc _ HE.out)))).mono ?_
            rintro e w1 ⟨rfl, z, rfl⟩
            go_wp2_with fail
            refine wp_region_ext (by kernel_rfl) (by kernel_rfl) ?_
            repeat (go_big_quiet_step ((first | (fail))))
            refine wpQuiet_nil ?_
            intro _ hq
            obtain ⟨yq, hq⟩ := hq
            subst hq
            go_wp2
            go_ret
            exact .mk (by rw [HR.out, HN.out (by rw [HOK.out]; rfl)]; simp) (by simp only [ext_ext]; exact (below_of_ext (((Below.refl _ _).alloc (Nat.le_refl _) _).alloc (by simp) _) (by simp only [World.size_alloc]; omega)))
          · by_cases h0 : 0 < k
            · obtain ⟨hp1, hp2⟩ := hp h0
              clear hp hp1
              have e0 : (k : Int) - 1 = ((k - 1 : Nat) : Int) := by omega
              by_cases hlb : p.bucket < ib
              · go_wp2_with fail
                refine (C1.out _ (Ents.ext (Ents.alloc _ (Ents.alloc _ HE.out)))).mono ?_
                rintro e w1 ⟨rfl, z, rfl⟩
                go_wp2_with fail
                refine wp_region_ext (by kernel_rfl) (by kernel_rfl) ?_
                repeat (go_big_quiet_step ((first | (fail))))
                refine wpQuiet_nil ?_
                intro _ hq
                obtain ⟨yq, hq⟩ := hq
                subst hq
                go_wp2
                go_roundw
                case rel => exact ⟨k + 1, _, by omega, by go_num, by simp only [ext_ext]; rfl, fun j hj => by
                  rcases Nat.lt_succ_iff_lt_or_eq.1 hj with h | rfl
                  · exact HA.out j h
                  · rw [HOK.out]; simp [hlb]⟩
                case measure => simp [intOf]; omega
              · go_wp2_with fail
                refine (C1.out _ (Ents.ext (Ents.alloc _ (Ents.alloc _ HE.out)))).mono ?_
                rintro e w1 ⟨rfl, z, rfl⟩
                go_wp2_with fail
                refine wp_region_ext (by kernel_rfl) (by kernel_rfl) ?_
                repeat (go_big_quiet_step ((first | (fail))))
                refine wpQuiet_nil ?_
                intro _ hq
                obtain ⟨yq, hq⟩ := hq
                subst hq
                go_wp2
                go_ret
                exact .mk (by rw [HR.out, HN.out (by rw [HOK.out]; simp; omega)]; simp) (by simp only [ext_ext]; exact (below_of_ext (((Below.refl _ _).alloc (Nat.le_refl _) _).alloc (by simp) _) (by simp only [World.size_alloc]; omega)))
            · obtain rfl : k = 0 := by omega
              clear hp
              simp only [Nat.zero_mul, Nat.add_zero] at c0 c1 c2 c3 c4 c5 c6 c7
              go_wp2_with fail
              refine (C1.out _ (Ents.ext (Ents.alloc _ (Ents.alloc _ HE.out)))).mono ?_
              rintro e w1 ⟨rfl, z, rfl⟩
              go_wp2_with fail
              refine wp_region_ext (by kernel_rfl) (by kernel_rfl) ?_
              repeat (go_big_quiet_step ((first | (fail))))
              refine wpQuiet_nil ?_
              intro _ hq
              obtain ⟨yq, hq⟩ := hq
              subst hq
              go_wp2
              go_roundw
              case rel => exact ⟨1, _, by omega, rfl, by simp only [ext_ext]; rfl, fun j hj => by
                    obtain rfl : j = 0 := by omega
                    rw [HOK.out]; simp⟩
              case measure => simp [intOf]; omega
        · go_wp2
          go_ret
          exact .mk (vbool (by rw [HR.out, itemsOk_yes (by omega) HA.out, HO.out.1, HO.out.2.1, HO.out.2.2]; have := HD.out; have := H0.out; simp [nodeOk] at *; omega)) (below_of_ext (((Below.refl _ _).alloc (Nat.le_refl _) _).alloc (by simp) _) (by simp only [World.size_alloc]; omega))
end Go.Proofs.Ytomcekjhehceoaa
