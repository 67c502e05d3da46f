/- WALKS: which transactions may be (votes.Right), as the program and as the document has it: both come to the plain function. -/
import Derived.Test.YtplliabmnhigbaaItems
import Derived.Test.YtplliabmnhigbaaMaps
set_option linter.unusedVariables false
set_option linter.unusedSimpArgs false
namespace Go.Proofs.Ytplliabmnhigbaa
open Go.RowKit Go.Tk

/-- a slice of items reads as a list -/
def Items (w : World) (v : Value) (l : List ItemR) : Prop :=
  l.length ≤ 1048576 ∧ ∃ A c, v = .slice A l.length c ∧ ∀ i x, l[i]? = some x → Ents w x.data x.ents ∧ ∃ b off, A = some ⟨b, off, none⟩ ∧ b < w.heap.size ∧
    w.cell? ⟨b, off + i * 8, none⟩ = some (.int .i64 x.bucket) ∧ w.cell? ⟨b, off + i * 8 + 1, none⟩ = some (.int .u32 x.ver) ∧ w.cell? ⟨b, off + i * 8 + 2, none⟩ = some (.bool x.write) ∧
    w.cell? ⟨b, off + i * 8 + 3, none⟩ = some x.data ∧ w.cell? ⟨b, off + i * 8 + 4, none⟩ = some (.int .u32 (x.inc 0)) ∧ w.cell? ⟨b, off + i * 8 + 5, none⟩ = some (.int .u32 (x.inc 1)) ∧
    w.cell? ⟨b, off + i * 8 + 6, none⟩ = some (.int .u32 (x.inc 2)) ∧ w.cell? ⟨b, off + i * 8 + 7, none⟩ = some (.int .u32 (x.inc 3))
theorem Items.of {w w' : World} {v : Value} {l : List ItemR} (h : Items w v l) (hs : w.heap.size ≤ w'.heap.size) (hb : ∀ b o, b < w.heap.size → w'.cell? ⟨b, o, none⟩ = w.cell? ⟨b, o, none⟩) (he : ∀ x ∈ l, Ents w x.data x.ents → Ents w' x.data x.ents) : Items w' v l := by
  obtain ⟨h1, A, c, h3, h4⟩ := h
  refine ⟨h1, A, c, h3, fun i x hx => ?_⟩
  obtain ⟨h5, b, off, h6, h7, h8⟩ := h4 i x hx
  refine ⟨he x (List.mem_of_getElem? hx) h5, b, off, h6, by omega, ?_⟩
  simp only [hb b _ h7]
  exact h8
theorem Items.ext {w : World} {v : Value} {l : List ItemR} {x : Ext} (h : Items w v l) : Items (w.ext x) v l :=
  h.of (by rw [size_ext]; omega) (fun b o hb => cell?_ext hb) (fun _ _ he => he.ext)
theorem Items.alloc {w : World} {v : Value} {l : List ItemR} (o : Obj) (h : Items w v l) : Items (w.alloc o) v l :=
  h.of (by simp) (fun b i hb => World.cell?_alloc_lt _ _ _ hb) (fun _ _ he => he.alloc o)
theorem Ents.setMap {w : World} {v : Value} {l : List (ByteArray × ByteArray)} {b : Nat} {es : Array MapEntry} {c : Nat} (h : Ents w v l) : Ents (w.setMap b es c) v l := by
  obtain ⟨h1, h2, A, c', h3, h4⟩ := h
  refine ⟨h1, h2, A, c', h3, fun i e he => ?_⟩
  obtain ⟨b', off, h5, h6, h7⟩ := h4 i e he
  exact ⟨b', off, h5, by rw [size_setMap]; exact h6, by simp only [cell?_setMap]; exact h7⟩
theorem Items.setMap {w : World} {v : Value} {l : List ItemR} {b : Nat} {es : Array MapEntry} {c : Nat} (h : Items w v l) : Items (w.setMap b es c) v l :=
  h.of (by rw [size_setMap]; omega) (fun _ _ _ => cell?_setMap) (fun _ _ he => he.setMap)

structure TxR where
  id : Int
  client : Int
  m0 : Int
  m1 : Int
  m2 : Int
  data : Value
  items : List ItemR
def TxR.val (t : TxR) : Value := .agg #[.int .u64 t.id, .int .i64 t.client, .int .i64 t.m0, .int .i64 t.m1, .int .i64 t.m2, t.data]
def nodeOk (n : Int) : Bool := decide (0 ≤ n ∧ n < 12)
def itemOkAt (l : List ItemR) (k : Nat) : Bool :=
  match l[k]? with
  | none => true
  | some x => x.right && (match k with | 0 => true | j + 1 => (match l[j]? with | none => true | some p => decide (p.bucket < x.bucket)))
def itemsOk (l : List ItemR) : Bool := (List.range l.length).all (itemOkAt l)
def TxR.right (t : TxR) : Bool :=
  decide (t.id ≠ 0) && nodeOk t.client && decide (1 ≤ t.items.length) && decide (t.items.length ≤ 8) && nodeOk t.m0 && nodeOk t.m1 && nodeOk t.m2 &&
    decide (t.m0 ≠ t.m1 ∧ t.m0 ≠ t.m2 ∧ t.m1 ≠ t.m2) && itemsOk t.items
theorem itemsOk_yes {l : List ItemR} {k : Nat} (hk : l.length ≤ k) (h : ∀ j, j < k → itemOkAt l j = true) : itemsOk l = true := by
  unfold itemsOk
  rw [List.all_eq_true]
  exact fun x hx => h x (by have := List.mem_range.1 hx; omega)
theorem itemsOk_no {l : List ItemR} {k : Nat} (hk : k < l.length) (h : itemOkAt l k = false) : itemsOk l = false := by
  unfold itemsOk
  rw [List.all_eq_false]
  exact ⟨k, List.mem_range.2 hk, by simp [h]⟩
theorem itemOkAt_mk {l : List ItemR} {k : Nat} {x p : ItemR} (hx : l[k]? = some x) (hp : 0 < k → l[k - 1]? = some p) :
    itemOkAt l k = (x.right && (k == 0 || decide (p.bucket < x.bucket))) := by
  unfold itemOkAt
  rw [hx]
  cases k with
  | zero => simp
  | succ j => have := hp (by omega); simp at this; simp [this]

theorem votes_node (n : Int) (w : World) : Calls Try.prog 58 #[.int .i64 n] w (Gives w (.bool (nodeOk n))) := by
  go_enter Try.func58, Try.ntmps58
  go_wp2
  all_goals
    go_ret
    exact .mk (vbool (by simp [nodeOk]; omega)) (Below.refl _ _)

/-- the managers that were met -/
def met (t : TxR) : Nat → List Int
  | 0 => []
  | k + 1 => let m := if k = 0 then t.m0 else if k = 1 then t.m1 else t.m2
    if m ∈ met t k then met t k else met t k ++ [m]
theorem met_three (t : TxR) : (met t 3).length = 3 ↔ (t.m0 ≠ t.m1 ∧ t.m0 ≠ t.m2 ∧ t.m1 ≠ t.m2) := by
  simp only [met]
  by_cases h1 : t.m1 = t.m0 <;> by_cases h2 : t.m2 = t.m0 <;> by_cases h3 : t.m2 = t.m1 <;> simp_all <;> omega
def seenKey : KeyTy Try.prog 3 Int := intKey Try.underlying3
theorem zeroInt (w : World) : (zeroValue 3).run Try.prog w = .ok (.int .i64 0) w := by kernel_rfl

def vInt (n : Int) : Value := .int .i64 n
theorem getD_vInt (o : Option Int) : (o.map vInt).getD (.int .i64 0) = .int .i64 (o.getD 0) := by cases o <;> rfl
theorem ext2_set {X : World} {y z : Ext} {b : Nat} {es : Array MapEntry} {c : Nat} (hb : X.heap.size ≤ b) : ∃ q, ((X.ext y).ext z).setMap b es c = X.ext q :=
  of_below (below_setMap (below_of_ext below_ext (by simp [size_ext])) hb)
theorem ext_alloc {X : World} {y : Ext} {o : Obj} : (X.ext y).alloc o = X.ext ⟨y.objs.push o, y.n⟩ := by simp [World.ext, World.alloc, Array.push_append]
theorem ext_of_set {w : World} {y : Ext} {b : Nat} {es : Array MapEntry} {c : Nat} (hb : w.heap.size ≤ b) : ∃ z, (w.ext y).setMap b es c = w.ext z := of_below (below_setMap below_ext hb)

set_option maxRecDepth 100000 in
set_option maxHeartbeats 1000000 in
theorem votes_Right (t : TxR) (w : World) (hi : Items w t.data t.items) (hw : (Lit.int .i64 t.m0).wf = true ∧ (Lit.int .i64 t.m1).wf = true ∧ (Lit.int .i64 t.m2).wf = true) :
    Calls Try.prog 32 #[t.val] w (Gives w (.bool t.right)) := by
  obtain ⟨r, hr⟩ : ∃ r, r = t.right := ⟨_, rfl⟩
  rw [← hr]
  unfold TxR.right at hr
  have HM := Lib.hid (met_three t)
  obtain ⟨id, client, m0, m1, m2, data, l⟩ := t
  simp only at hi hw
  unfold TxR.val
  simp only at hr ⊢
  have HI := Lib.hid hi
  have HR := Lib.hid hr
  clear hr
  obtain ⟨hl, A, c, rfl, hc⟩ := hi
  have HC := Lib.hid hc
  clear hc
  have N0 := Lib.hid (fun W => votes_node client W)
  generalize hn : nodeOk client = nc at *
  have hmm := @run_makeMap Try.prog
  have HW := Lib.hid hw
  clear hw
  have i0 : ∀ (a b c : Int) w, (Instr.index 23 (.agg #[.int .i64 a, .int .i64 b, .int .i64 c]) (.int .i64 0)).run Try.prog w = .ok (.int .i64 a) w := fun _ _ _ _ => by kernel_rfl
  have i1 : ∀ (a b c : Int) w, (Instr.index 23 (.agg #[.int .i64 a, .int .i64 b, .int .i64 c]) (.int .i64 1)).run Try.prog w = .ok (.int .i64 b) w := fun _ _ _ _ => by kernel_rfl
  have i2 : ∀ (a b c : Int) w, (Instr.index 23 (.agg #[.int .i64 a, .int .i64 b, .int .i64 c]) (.int .i64 2)).run Try.prog w = .ok (.int .i64 c) w := fun _ _ _ _ => by kernel_rfl
  by_cases h1 : id ≠ 0 ∧ nc = true ∧ 1 ≤ l.length ∧ l.length ≤ 8
  · obtain ⟨hid', rfl, hl1, hl8⟩ := h1
    have e1 : (id == 0) = false := by simp [hid']
    have e2 : ((l.length : Int) == 0) = false := by rw [beq_eq_false_iff_ne]; omega
    have HID := Lib.hid hid'
    clear hid'
    go_enter Try.func32, Try.ntmps32
    go_wp2_with (go_at_call 58; refine (N0.out _).mono ?_; rintro e w1 ⟨rfl, y0, rfl⟩)
    clear N0
    go_loopw [32] (fun i wr => ∃ (k : Nat) (y : Ext) (ml : List (Int × Int)), k ≤ 3 ∧ i = .int .i64 k ∧ wr = (w.alloc (.cells #[.int .u64 id, .int .i64 client, .int .i64 m0, .int .i64 m1, .int .i64 m2, .slice A l.length c] 26)).ext y ∧
      MapAt seenKey vInt wr (w.heap.size + 1 + y0.objs.size) ml ∧ keysOf ml = met ⟨id, client, m0, m1, m2, .slice A l.length c, l⟩ k ∧ (k ≤ 0 ∨ nodeOk m0 = true) ∧ (k ≤ 1 ∨ nodeOk m1 = true) ∧ (k ≤ 2 ∨ nodeOk m2 = true)) (fun i _ => 3 - (intOf i).toNat)
    case atStart => exact ⟨0, _, [], by omega, rfl, ext_alloc, by have h := MapAt.made (κ := seenKey) (vv := vInt) (w := (w.alloc (.cells #[.int .u64 id, .int .i64 client, .int .i64 m0, .int .i64 m1, .int .i64 m2, .slice A l.length c] 26)).ext y0); rwa [size_ext, World.size_alloc] at h, rfl, .inl (by omega), .inl (by omega), .inl (by omega)⟩
    case round =>
      obtain ⟨k, y, ml, hk, rfl, rfl, hm, hkeys, ok0, ok1, ok2⟩ := hrel
      have HK := Lib.hid hkeys
      have O0 := Lib.hid ok0
      have O1 := Lib.hid ok1
      have O2 := Lib.hid ok2
      clear hkeys ok0 ok1 ok2
      have hcase : k = 0 ∨ k = 1 ∨ k = 2 ∨ k = 3 := by omega
      rcases hcase with rfl | rfl | rfl | rfl
      · obtain ⟨b0, hb0⟩ : ∃ b, b = nodeOk m0 := ⟨_, rfl⟩
        have N := Lib.hid (fun W => votes_node m0 W)
        rw [← hb0] at N
        have HB := Lib.hid hb0
        clear hb0
        cases b0
        · go_wp2_with (go_at_call 58; refine (N.out _).mono ?_; rintro e w1 ⟨rfl, z, rfl⟩)
          go_ret
          exact .mk (by rw [HR.out, ← HB.out]; simp) (by simp only [ext_ext]; exact below_of_ext ((Below.refl _ _).alloc (Nat.le_refl _) _) (by simp))
        · go_wp2_with (first
            | (go_at_call 58; refine (N.out _).mono ?_; rintro e w1 ⟨rfl, z, rfl⟩)
            | (at_lookup; refine wpList_lookup_at rfl _ _ _ _ rfl Try.underlying139 zeroInt rfl (hm.ext) m0 HW.out.1 rfl _ (getD_vInt _) ?_)
            | (at_mapUpdate; refine wpList_mapUpdate_at rfl _ _ _ _ rfl Try.underlying139 rfl (hm.ext) m0 HW.out.1 _ rfl rfl ?_; intro es ec hm1))
          obtain ⟨q, hq⟩ := ext2_set (X := w.alloc (.cells #[.int .u64 id, .int .i64 client, .int .i64 m0, .int .i64 m1, .int .i64 m2, .slice A l.length c] 26)) (y := y) (z := z) (b := w.heap.size + 1 + y0.objs.size) (es := es) (c := ec) (by simp)
          exact ⟨⟨1, q, _, by omega, rfl, hq, hm1, by rw [keys_mset, HK.out]; rfl, .inr HB.out.symm, .inl (by omega), .inl (by omega)⟩, by simp [intOf]⟩
      · obtain ⟨b1, hb1⟩ : ∃ b, b = nodeOk m1 := ⟨_, rfl⟩
        have N := Lib.hid (fun W => votes_node m1 W)
        rw [← hb1] at N
        have HB := Lib.hid hb1
        clear hb1
        cases b1
        · go_wp2_with (go_at_call 58; refine (N.out _).mono ?_; rintro e w1 ⟨rfl, z, rfl⟩)
          go_ret
          exact .mk (by rw [HR.out, ← HB.out]; simp) (by simp only [ext_ext]; exact below_of_ext ((Below.refl _ _).alloc (Nat.le_refl _) _) (by simp))
        · go_wp2_with (first
            | (go_at_call 58; refine (N.out _).mono ?_; rintro e w1 ⟨rfl, z, rfl⟩)
            | (at_lookup; refine wpList_lookup_at rfl _ _ _ _ rfl Try.underlying139 zeroInt rfl (hm.ext) m1 HW.out.2.1 rfl _ (getD_vInt _) ?_)
            | (at_mapUpdate; refine wpList_mapUpdate_at rfl _ _ _ _ rfl Try.underlying139 rfl (hm.ext) m1 HW.out.2.1 _ rfl rfl ?_; intro es ec hm1))
          obtain ⟨q, hq⟩ := ext2_set (X := w.alloc (.cells #[.int .u64 id, .int .i64 client, .int .i64 m0, .int .i64 m1, .int .i64 m2, .slice A l.length c] 26)) (y := y) (z := z) (b := w.heap.size + 1 + y0.objs.size) (es := es) (c := ec) (by simp)
          exact ⟨⟨2, q, _, by omega, rfl, hq, hm1, by rw [keys_mset, HK.out]; rfl, O0.out.imp (by omega) (fun h => h), .inr HB.out.symm, .inl (by omega)⟩, by simp [intOf]⟩
      · obtain ⟨b2, hb2⟩ : ∃ b, b = nodeOk m2 := ⟨_, rfl⟩
        have N := Lib.hid (fun W => votes_node m2 W)
        rw [← hb2] at N
        have HB := Lib.hid hb2
        clear hb2
        cases b2
        · go_wp2_with (go_at_call 58; refine (N.out _).mono ?_; rintro e w1 ⟨rfl, z, rfl⟩)
          go_ret
          exact .mk (by rw [HR.out, ← HB.out]; simp) (by simp only [ext_ext]; exact below_of_ext ((Below.refl _ _).alloc (Nat.le_refl _) _) (by simp))
        · go_wp2_with (first
            | (go_at_call 58; refine (N.out _).mono ?_; rintro e w1 ⟨rfl, z, rfl⟩)
            | (at_lookup; refine wpList_lookup_at rfl _ _ _ _ rfl Try.underlying139 zeroInt rfl (hm.ext) m2 HW.out.2.2 rfl _ (getD_vInt _) ?_)
            | (at_mapUpdate; refine wpList_mapUpdate_at rfl _ _ _ _ rfl Try.underlying139 rfl (hm.ext) m2 HW.out.2.2 _ rfl rfl ?_; intro es ec hm1))
          obtain ⟨q, hq⟩ := ext2_set (X := w.alloc (.cells #[.int .u64 id, .int .i64 client, .int .i64 m0, .int .i64 m1, .int .i64 m2, .slice A l.length c] 26)) (y := y) (z := z) (b := w.heap.size + 1 + y0.objs.size) (es := es) (c := ec) (by simp)
          exact ⟨⟨3, q, _, by omega, rfl, hq, hm1, by rw [keys_mset, HK.out]; rfl, O0.out.imp (by omega) (fun h => h), O1.out.imp (by omega) (fun h => h), .inr HB.out.symm⟩, by simp [intOf]⟩
      · have HO : Hid (nodeOk m0 = true ∧ nodeOk m1 = true ∧ nodeOk m2 = true) := Lib.hid ⟨O0.out.resolve_left (by omega), O1.out.resolve_left (by omega), O2.out.resolve_left (by omega)⟩
        clear O0 O1 O2
        go_wp2
        go_loopw [46] (fun i wr => ∃ (k : Nat) (y : Ext), k ≤ l.length ∧ i = .int .i64 k ∧ wr = (w.alloc (.cells #[.int .u64 id, .int .i64 client, .int .i64 m0, .int .i64 m1, .int .i64 m2, .slice A l.length c] 26)).ext y ∧
          MapAt seenKey vInt wr (w.heap.size + 1 + y0.objs.size) ml ∧ (∀ j, j < k → itemOkAt l j = true)) (fun i _ => l.length - (intOf i).toNat)
        case atStart => exact ⟨0, y, by omega, rfl, rfl, hm, fun j hj => by omega⟩
        case round =>
          clear hm
          obtain ⟨k, y, hk, rfl, rfl, hm, hall⟩ := hrel
          have HA := Lib.hid hall
          clear hall
          by_cases hlt : k < l.length
          · have hx : l[k]? = some l[k] := List.getElem?_eq_getElem hlt
            obtain ⟨he, b, off, rfl, hb, c0, c1, c2, c3, c4, c5, c6, c7⟩ := HC.out k _ hx
            obtain ⟨r1, r2, r3, r4, r5, r6⟩ := roomy hb
            obtain ⟨q1, q2, q3, q4, q5, q6⟩ := roomy (b := w.heap.size) (s := w.heap.size + 1) (by omega)
            obtain ⟨p, hp⟩ : ∃ p : ItemR, 0 < k → l[k - 1]? = some p ∧ w.cell? ⟨b, off + (k - 1) * 8, none⟩ = some (.int .i64 p.bucket) := by
              by_cases h0 : 0 < k
              · obtain ⟨_, b', off', e1, _, e2, _⟩ := HC.out (k - 1) _ (List.getElem?_eq_getElem (by omega))
                simp only [Option.some.injEq, Addr.mk.injEq, and_true] at e1
                obtain ⟨rfl, rfl⟩ := e1
                exact ⟨l[k - 1], fun _ => ⟨List.getElem?_eq_getElem (by omega), e2⟩⟩
              · exact ⟨l[k], fun h => absurd h h0⟩
            have hok := itemOkAt_mk hx (fun h => (hp h).1)
            have HN := Lib.hid (itemsOk_no hlt)
            generalize l[k] = x at *
            obtain ⟨ib, iv, iw, idd, ie, ii⟩ := x
            simp only at he c0 c1 c2 c3 c4 c5 c6 c7 hok
            have HE := Lib.hid he
            have cc : ∀ W, Ents W idd ie → Calls Try.prog 59 #[.agg #[.int .i64 ib, .int .u32 iv, .bool iw, idd, .int .u32 (ii 0), .int .u32 (ii 1), .int .u32 (ii 2), .int .u32 (ii 3)]] W (Gives W (.bool (ItemR.right ⟨ib, iv, iw, idd, ie, ii⟩))) := fun W h => store_Right ⟨ib, iv, iw, idd, ie, ii⟩ W h
            have C1 := Lib.hid cc
            clear cc
            obtain ⟨_, _, A', c', rfl, _⟩ := he
            clear hx
            generalize ItemR.right ⟨ib, iv, iw, .slice A' ie.length c', ie, ii⟩ = b1 at *
            have HOK := Lib.hid hok
            clear hok
            cases b1
            · clear hp
              go_wp2
              refine wp_region_ext (by kernel_rfl) (by kernel_rfl) ?_
              repeat (go_big_quiet_step ((first | (go_at_call 59; exact quiet_pure (C1.out _ (Ents.ext (Ents.alloc _ (Ents.ext (Ents.alloc _ HE.out)))))))))
              refine wpQuiet_nil ?_
              intro _ hq
              obtain ⟨yq, hq⟩ := hq
              subst hq
              go_wp2
              go_ret
              exact .mk (by rw [HR.out, HN.out (by rw [HOK.out]; rfl)]; simp) (below_of_ext (Below.alloc (below_of_ext ((Below.refl _ _).alloc (Nat.le_refl _) _) (by simp)) (by simp [size_ext]; omega) _) (by simp [size_ext]; omega))
            · by_cases h0 : 0 < k
              · obtain ⟨hp1, hp2⟩ := hp h0
                clear hp hp1
                have e0 : (k : Int) - 1 = ((k - 1 : Nat) : Int) := by omega
                by_cases hlb : p.bucket < ib
                · go_wp2
                  refine wp_region_ext (by kernel_rfl) (by kernel_rfl) ?_
                  repeat (go_big_quiet_step ((first | (go_at_call 59; exact quiet_pure (C1.out _ (Ents.ext (Ents.alloc _ (Ents.ext (Ents.alloc _ HE.out)))))))))
                  refine wpQuiet_nil ?_
                  intro _ hq
                  obtain ⟨yq, hq⟩ := hq
                  subst hq
                  go_wp2
                  go_roundw
                  case rel => exact ⟨k + 1, _, by omega, by go_num, world_ext1, ((hm.alloc _).ext), fun j hj => by
                    rcases Nat.lt_succ_iff_lt_or_eq.1 hj with h | rfl
                    · exact HA.out j h
                    · rw [HOK.out]; simp [hlb]⟩
                  case measure => simp [intOf]; omega
                · go_wp2
                  refine wp_region_ext (by kernel_rfl) (by kernel_rfl) ?_
                  repeat (go_big_quiet_step ((first | (go_at_call 59; exact quiet_pure (C1.out _ (Ents.ext (Ents.alloc _ (Ents.ext (Ents.alloc _ HE.out)))))))))
                  refine wpQuiet_nil ?_
                  intro _ hq
                  obtain ⟨yq, hq⟩ := hq
                  subst hq
                  go_wp2
                  go_ret
                  exact .mk (by rw [HR.out, HN.out (by rw [HOK.out]; simp; omega)]; simp) (below_of_ext (Below.alloc (below_of_ext ((Below.refl _ _).alloc (Nat.le_refl _) _) (by simp)) (by simp [size_ext]; omega) _) (by simp [size_ext]; omega))
              · obtain rfl : k = 0 := by omega
                clear hp
                simp only [Nat.zero_mul, Nat.add_zero] at c0 c1 c2 c3 c4 c5 c6 c7
                go_wp2
                refine wp_region_ext (by kernel_rfl) (by kernel_rfl) ?_
                repeat (go_big_quiet_step ((first | (go_at_call 59; exact quiet_pure (C1.out _ (Ents.ext (Ents.alloc _ (Ents.ext (Ents.alloc _ HE.out)))))))))
                refine wpQuiet_nil ?_
                intro _ hq
                obtain ⟨yq, hq⟩ := hq
                subst hq
                go_wp2
                go_roundw
                case rel => exact ⟨1, _, by omega, rfl, world_ext1, ((hm.alloc _).ext), fun j hj => by
                    obtain rfl : j = 0 := by omega
                    rw [HOK.out]; simp⟩
                case measure => simp [intOf]; omega
          · go_wp2_with (at_len; refine wpList_len_at rfl _ _ rfl Try.underlying139 rfl hm ?_)
            go_ret
            have hlen : (ml.length : Nat) = (met ⟨id, client, m0, m1, m2, .slice A l.length c, l⟩ 3).length := by rw [← HK.out]; simp [keysOf]
            exact .mk (vbool (by rw [HR.out, itemsOk_yes (by omega) HA.out, HO.out.1, HO.out.2.1, HO.out.2.2]; have := HM.out; have := HID.out; simp at *; omega)) (below_of_ext ((Below.refl _ _).alloc (Nat.le_refl _) _) (by simp))
  · have hcase : id = 0 ∨ (id ≠ 0 ∧ nc = false) ∨ (id ≠ 0 ∧ nc = true ∧ l.length = 0) ∨ (id ≠ 0 ∧ nc = true ∧ l.length ≠ 0 ∧ 8 < l.length) := by
      by_cases h0 : id = 0
      · exact .inl h0
      cases nc
      · exact .inr (.inl ⟨h0, rfl⟩)
      by_cases h2 : l.length = 0
      · exact .inr (.inr (.inl ⟨h0, rfl, h2⟩))
      · exact .inr (.inr (.inr ⟨h0, rfl, h2, Nat.lt_of_not_le fun h => h1 ⟨h0, rfl, by omega, h⟩⟩))
    clear h1
    rcases hcase with rfl | ⟨h0, rfl⟩ | ⟨h0, rfl, h2⟩ | ⟨h0, rfl, h2, h3⟩
    · go_enter Try.func32, Try.ntmps32
      go_wp2
      go_ret
      exact .mk (by rw [HR.out]; first | (simp; done) | (simp; omega) | (simp; intros; omega)) (by first | exact below_of_ext ((Below.refl _ _).alloc (Nat.le_refl _) _) (by simp) | exact (Below.refl _ _).alloc (Nat.le_refl _) _)
    · have e1 : (id == 0) = false := by simp [h0]
      clear h0
      go_enter Try.func32, Try.ntmps32
      go_wp2_with (go_at_call 58; refine (N0.out _).mono ?_; rintro e w1 ⟨rfl, y, rfl⟩)
      go_ret
      exact .mk (by rw [HR.out]; first | (simp; done) | (simp; omega) | (simp; intros; omega)) (by first | exact below_of_ext ((Below.refl _ _).alloc (Nat.le_refl _) _) (by simp) | exact (Below.refl _ _).alloc (Nat.le_refl _) _)
    · have e1 : (id == 0) = false := by simp [h0]
      have e2 : ((l.length : Int) == 0) = true := by simp [h2]
      have H2 := Lib.hid h2
      clear h0 h2
      go_enter Try.func32, Try.ntmps32
      go_wp2_with (go_at_call 58; refine (N0.out _).mono ?_; rintro e w1 ⟨rfl, y, rfl⟩)
      go_ret
      exact .mk (vbool (by rw [HR.out, H2.out]; simp)) (below_of_ext ((Below.refl _ _).alloc (Nat.le_refl _) _) (by simp))
    · have e1 : (id == 0) = false := by simp [h0]
      have e2 : ((l.length : Int) == 0) = false := by rw [beq_eq_false_iff_ne]; omega
      clear h0
      go_enter Try.func32, Try.ntmps32
      go_wp2_with (go_at_call 58; refine (N0.out _).mono ?_; rintro e w1 ⟨rfl, y, rfl⟩)
      go_ret
      exact .mk (vbool (by rw [HR.out]; simp; omega)) (below_of_ext ((Below.refl _ _).alloc (Nat.le_refl _) _) (by simp))
end Go.Proofs.Ytplliabmnhigbaa
