/- WALK: the document's Own: a transaction in new memory: its items and their entries are the call's own. -/
import Derived.Test.YteheajddplkmdaaTx
import Derived.Test.YteheajddplkmdaaAlive
import Derived.Test.YteheajddplkmdaaAppend
import Derived.Deep.DeepCutAuto
import Derived.Outline
set_option linter.unusedVariables false
set_option linter.unusedSimpArgs false
namespace Go.Proofs.Yteheajddplkmdaa
open Go.RowKit Go.Tk

def flatE : List (ByteArray × ByteArray) → List Value
  | [] => []
  | e :: r => .string e.1 :: .string e.2 :: flatE r
theorem flatE_len : ∀ l, (flatE l).length = l.length * 2
  | [] => rfl
  | e :: r => by simp [flatE, flatE_len r]; omega
theorem flatE_one : ∀ l, ∀ u ∈ flatE l, u.oneCell' = true
  | [], u, h => by simp [flatE] at h
  | e :: r, u, h => by
    simp only [flatE, List.mem_cons] at h
    rcases h with rfl | rfl | h
    · rfl
    · rfl
    · exact flatE_one r u h
theorem flatE_get : ∀ (l : List (ByteArray × ByteArray)) (i : Nat) (e : ByteArray × ByteArray), l[i]? = some e → (flatE l)[i * 2]? = some (.string e.1) ∧ (flatE l)[i * 2 + 1]? = some (.string e.2)
  | [], i, e, h => by simp at h
  | x :: r, 0, e, h => by simp at h; subst h; exact ⟨rfl, rfl⟩
  | x :: r, i + 1, e, h => by
    have := flatE_get r i e (by simpa using h)
    rw [show (i + 1) * 2 = i * 2 + 2 by omega]
    simpa [flatE] using this
theorem Ents.src {w : World} {A : Option Addr} {n c : Nat} {l : List (ByteArray × ByteArray)} (h : Ents w (.slice A n c) l) : n = l.length ∧ Src w A 2 n (flatE l) := by
  obtain ⟨_, _, A', c', hv, hc⟩ := h
  injection hv with e1 e2 e3
  subst e1 e2 e3
  refine ⟨rfl, flatE_len l, fun hn => ?_⟩
  obtain ⟨b, off, rfl, hb, _⟩ := hc 0 _ (List.getElem?_eq_getElem hn)
  refine ⟨b, off, rfl, fun j u hu => ?_⟩
  have hj : j < l.length * 2 := by have := (List.getElem?_eq_some_iff.1 hu).1; rwa [flatE_len] at this
  obtain ⟨i, r, rfl, hr⟩ : ∃ i r, j = i * 2 + r ∧ r < 2 := ⟨j / 2, j % 2, by omega, Nat.mod_lt _ (by omega)⟩
  have h2 : i < l.length := by omega
  have hx := List.getElem?_eq_getElem h2
  obtain ⟨b', off', e1, _, c0, c1⟩ := hc i _ hx
  simp only [Option.some.injEq, Addr.mk.injEq, and_true] at e1
  obtain ⟨rfl, rfl⟩ := e1
  obtain ⟨g0, g1⟩ := flatE_get l i _ hx
  have hcase : r = 0 ∨ r = 1 := by omega
  rw [← Nat.add_assoc]
  rcases hcase with rfl | rfl
  · rw [Nat.add_zero] at hu ⊢
    rw [g0] at hu
    injection hu with hu
    rw [← hu]
    exact c0
  · rw [g1] at hu
    injection hu with hu
    rw [← hu]
    exact c1
theorem Ents.of_own {X : World} {y : Ext} {A : Option Addr} {n c : Nat} {l : List (ByteArray × ByteArray)} (hs : ∀ e ∈ l, e.1.size ≤ 1048576 ∧ e.2.size ≤ 1048576) (hn : l.length ≤ 1048576) (hnl : n = l.length)
    (h : Own X y 58 2 (.slice A n c) n (flatE l)) : Ents (X.ext y) (.slice A n c) l := by
  subst hnl
  refine ⟨hn, hs, A, c, rfl, fun i e he => ?_⟩
  have hi := (List.getElem?_eq_some_iff.1 he).1
  obtain ⟨g, rfl, hg, hlt, hc⟩ := h.at_ (by omega)
  obtain ⟨g0, g1⟩ := flatE_get l i e he
  refine ⟨g, 0, rfl, hlt, ?_⟩
  have h0 := (hc (i * 2) (by omega)).1
  have h1 := (hc (i * 2 + 1) (by omega)).1
  rw [g0] at h0
  rw [g1] at h1
  simp only [Nat.zero_add]
  exact ⟨h0, h1⟩

def flatI (L : Nat → ItemR) : Nat → List Value
  | 0 => []
  | n + 1 => flatI L n ++ (L n).cells
theorem flatI_len (L : Nat → ItemR) : ∀ n, (flatI L n).length = n * 8
  | 0 => rfl
  | n + 1 => by simp [flatI, flatI_len L n, ItemR.cells]; omega
theorem flatI_get {L : Nat → ItemR} {i k : Nat} (hk : k < 8) : ∀ n, i < n → (flatI L n)[i * 8 + k]? = (L i).cells[k]?
  | 0, h => by omega
  | n + 1, h => by
    unfold flatI
    rw [List.getElem?_append, flatI_len]
    by_cases e : i = n
    · subst e
      rw [if_neg (by omega), show i * 8 + k - i * 8 = k by omega]
    · rw [if_pos (by omega)]
      exact flatI_get hk n (by omega)
theorem flatI_congr {L M : Nat → ItemR} : ∀ n, (∀ j, j < n → L j = M j) → flatI L n = flatI M n
  | 0, _ => rfl
  | n + 1, h => by unfold flatI; rw [flatI_congr n (fun j hj => h j (by omega)), h n (by omega)]
/-- a row of another kind of elements lies in another block -/
theorem _root_.Go.Tk.Own.apart {X : World} {y : Ext} {e e' : TypeId} {size n : Nat} {v : Value} {xs : List Value} {g : Nat} {cs : Array Value} {fr : Nat × Nat} (h : Own X y e size v n xs) (hg : (X.ext y).heap[g]? = some (.cells cs e' fr)) (hne : e ≠ e') : v.ownBlock ≠ some g := by
  rcases h.2 with ⟨rfl, _⟩ | ⟨g', cap, cur, rfl, _, hh, _⟩
  · simp [Value.ownBlock]
  · intro he
    have : g' = g := by simpa [Value.ownBlock] using he
    subst this
    rw [hh] at hg
    injection hg with hg
    injection hg with _ ht
    exact hne ht
theorem _root_.Go.Tk.Own.block_lt {X : World} {y : Ext} {e : TypeId} {size n : Nat} {v : Value} {xs : List Value} {g : Nat} (h : Own X y e size v n xs) (hv : v.ownBlock = some g) : ∃ cur, (X.ext y).heap[g]? = some (.cells cur e (0, 0)) := by
  rcases h.2 with ⟨rfl, _⟩ | ⟨g', cap, cur, rfl, _, hh, _⟩
  · simp [Value.ownBlock] at hv
  · have : g' = g := by simpa [Value.ownBlock] using hv
    subst this
    exact ⟨cur, hh⟩
/-- kept while a row of another kind grows -/
theorem _root_.Go.Tk.Own.beside {X : World} {y z : Ext} {e e' : TypeId} {size n size' n' : Nat} {v v' : Value} {xs xs' : List Value} (h : Own X y e size v n xs) (h' : Own X y e' size' v' n' xs') (hne : e ≠ e')
    (hg : (X.ext y).grownBy (X.ext z) v'.ownBlock) : Own X z e size v n xs := by
  refine h.grown hg (fun g hv hr => ?_)
  obtain ⟨cur, hc⟩ := h'.block_lt hr
  exact h.apart hc hne hv
theorem ext_alloc_ext (w : World) (o : Obj) : w.alloc o = w.ext ⟨#[o], w.drawn⟩ := by simp only [World.ext, World.alloc, Array.push_eq_append]
theorem src_new {W : World} {l : List Value} {t : TypeId} {n : Nat} (h : n = W.heap.size := by first | rfl | simp [size_ext]) : ∀ j u, l[j]? = some u → (W.alloc (.cells l.toArray t)).cell? ⟨n, 0 + j, none⟩ = some u := by
  intro j u hu
  subst h
  rw [Nat.zero_add, World.cell?_alloc_new]
  simpa using hu
theorem own_shape {X : World} {y : Ext} {e : TypeId} {size n : Nat} {v : Value} {xs : List Value} (h : Own X y e size v n xs) : ∃ A c, v = .slice A n c := by
  rcases h.2 with ⟨rfl, rfl⟩ | ⟨g', cap, cur, rfl, _⟩
  · exact ⟨_, _, rfl⟩
  · exact ⟨_, _, rfl⟩
theorem frozen_of_heap {W : World} {b i : Nat} {cs : Array Value} {t : TypeId} (h : W.heap[b]? = some (.cells cs t (0, 0))) : W.frozen? ⟨b, i, none⟩ = false := by simp [World.frozen?, h]
theorem infoItem : (Try.prog.info? 43).map (fun i => (i.zero, i.size, i.bytes)) = some (some (.agg #[.int .i64 0, .int .u32 0, .bool false, .slice none 0 0, .int .u32 0, .int .u32 0, .int .u32 0, .int .u32 0]), 8, 56) := by kernel_rfl
theorem infoEntry : (Try.prog.info? 58).map (fun i => (i.zero, i.size, i.bytes)) = some (some (.agg #[.string .empty, .string .empty]), 2, 32) := by kernel_rfl

theorem _root_.Go.Tk.Own.rebase {X w : World} {y y' : Ext} {e : TypeId} {size n : Nat} {v : Value} {xs : List Value} (h : Own X y e size v n xs) (hle : w.heap.size ≤ X.heap.size) (hh : ∀ k, X.heap.size ≤ k → (w.ext y').heap[k]? = (X.ext y).heap[k]?) : Own w y' e size v n xs := by
  obtain ⟨h1, h2⟩ := h
  refine ⟨h1, ?_⟩
  rcases h2 with h2 | ⟨g, cap, cur, rfl, hb, hh', h3⟩
  · exact .inl h2
  · exact .inr ⟨g, cap, cur, rfl, by omega, (hh g hb).trans hh', h3⟩
theorem two_ext {w : World} {o1 o2 : Obj} {y : Ext} : ((w.alloc o1).alloc o2).ext y = w.ext ⟨#[o1, o2] ++ y.objs, y.n⟩ := by
  simp only [World.ext, World.alloc, World.mk.injEq, and_self, and_true]
  rw [← Array.append_assoc]
  congr 1
theorem two_heap {w : World} {o1 o2 p1 p2 : Obj} {y : Ext} (k : Nat) (hk : ((w.alloc o1).alloc o2).heap.size ≤ k) : (w.ext ⟨#[p1, p2] ++ y.objs, y.n⟩).heap[k]? = (((w.alloc o1).alloc o2).ext y).heap[k]? := by
  have e : ((w.alloc o1).alloc o2).heap.size = w.heap.size + 1 + 1 := by simp
  rw [e] at hk
  rw [two_ext]
  simp only [World.ext]
  have s1 : (#[p1, p2] : Array Obj).size = 2 := rfl
  have s2 : (#[o1, o2] : Array Obj).size = 2 := rfl
  rw [Array.getElem?_append_right (by omega), Array.getElem?_append_right (by omega), Array.getElem?_append_right (by omega), Array.getElem?_append_right (by omega), s1, s2]
/-- items in the call's own memory -/
def OwnItems (X : World) (y : Ext) (v : Value) (n : Nat) (L : Nat → ItemR) : Prop :=
  Own X y 43 8 v n (flatI L n) ∧ ∀ j, j < n → (∃ A c, (L j).data = .slice A (L j).ents.length c) ∧ Own X y 58 2 (L j).data (L j).ents.length (flatE (L j).ents) ∧ (L j).ents.length ≤ 1048576 ∧ ∀ e ∈ (L j).ents, e.1.size ≤ 1048576 ∧ e.2.size ≤ 1048576

set_option maxRecDepth 100000 in
set_option maxHeartbeats 2000000 in
theorem ref18_Own (t : TxR) (w : World) (hi : Items w t.data t.items) :
    Calls Try.prog 12 #[t.val] w (fun e w' => ∃ (y : Ext) (v : Value) (L : Nat → ItemR), e = .returned (.agg #[.int .u64 t.id, .int .i64 t.client, .int .i64 t.m0, .int .i64 t.m1, .int .i64 t.m2, v]) ∧ w' = w.ext y ∧ (∃ A c, v = .slice A t.items.length c) ∧
      OwnItems w y v t.items.length L ∧ ∀ j x, t.items[j]? = some x → ∃ dv, L j = { x with data := dv }) := by
  obtain ⟨id, client, m0, m1, m2, data, l⟩ := t
  simp only at hi
  unfold TxR.val
  simp only
  have HI := Lib.hid hi
  obtain ⟨hl, A, c, rfl, hc⟩ := hi
  have HC := Lib.hid hc
  clear hc
  obtain ⟨i0, hi0, hz0, hz1, hz2⟩ := info_parts infoItem
  obtain ⟨i1, hi1, hy0, hy1, hy2⟩ := info_parts infoEntry
  obtain ⟨q1, q2, q3, q4, q5, q6⟩ := roomy (b := w.heap.size) (s := w.heap.size + 2) (by omega)
  go_enter Try.func12, Try.ntmps12
  go_wp2
  go_loopw [3, 4] (fun s3 s4 wr => ∃ (i : Nat) (y : Ext) (v : Value) (L : Nat → ItemR), i ≤ l.length ∧ s4 = .int .i64 i ∧ s3 = v ∧ wr = ((w.alloc (.cells #[.int .u64 id, .int .i64 client, .int .i64 m0, .int .i64 m1, .int .i64 m2, .slice A l.length c] 26)).alloc (.cells #[.int .u64 0, .int .i64 0, .int .i64 0, .int .i64 0, .int .i64 0, .slice none 0 0] 26)).ext y ∧
    Hid (OwnItems ((w.alloc (.cells #[.int .u64 id, .int .i64 client, .int .i64 m0, .int .i64 m1, .int .i64 m2, .slice A l.length c] 26)).alloc (.cells #[.int .u64 0, .int .i64 0, .int .i64 0, .int .i64 0, .int .i64 0, .slice none 0 0] 26)) y v i L) ∧ Hid (∀ j x, j < i → l[j]? = some x → ∃ dv, L j = { x with data := dv })) (fun _ s4 _ => l.length - (intOf s4).toNat)
  case atStart => exact ⟨0, ⟨#[], w.drawn⟩, _, fun _ => ⟨0, 0, false, .slice none 0 0, [], fun _ => 0⟩, by omega, rfl, rfl, ext_self, Lib.hid ⟨Own.nil, fun j hj => by omega⟩, Lib.hid (fun j x hj => by omega)⟩
  case round =>
    obtain ⟨i, y, v, L, hi, rfl, rfl, rfl, hown, hL⟩ := hrel
    by_cases hlt : i < l.length
    case neg =>
      obtain rfl : i = l.length := by omega
      obtain ⟨hItems, hData⟩ := hown.out
      obtain ⟨G, cp, rfl⟩ := own_shape hItems
      have HItems := Lib.hid hItems
      have HData := Lib.hid hData
      clear hItems hData hown
      go_wp2
      refine bodyPost_ret (v := .agg #[.int .u64 id, .int .i64 client, .int .i64 m0, .int .i64 m1, .int .i64 m2, .slice G l.length cp]) (by simp [results, Try.results12, go_sem]) rfl ?_
      refine ⟨_, _, L, rfl, two_ext, ⟨G, cp, rfl⟩, ⟨HItems.out.rebase (by simp; omega) two_heap, fun j hj => ?_⟩, fun j x hx => hL.out j x (List.getElem?_eq_some_iff.1 hx).1 hx⟩
      obtain ⟨d1, d2, d3, d4⟩ := HData.out j hj
      exact ⟨d1, d2.rebase (by simp; omega) two_heap, d3, d4⟩
    have hx : l[i]? = some l[i] := List.getElem?_eq_getElem hlt
    obtain ⟨he, b, off, rfl, hb, c0, c1, c2, c3, c4, c5, c6, c7⟩ := HC.out i _ hx
    obtain ⟨r1, r2, r3, r4, r5, r6⟩ := roomy hb
    have HX := Lib.hid hx
    clear hx
    generalize l[i] = x at *
    obtain ⟨ib, iv, iw, idd, ie, ii⟩ := x
    simp only at he c0 c1 c2 c3 c4 c5 c6 c7
    have HE := Lib.hid he
    obtain ⟨hie, hsz, A', c', rfl, _⟩ := he
    have HSZ := Lib.hid hsz
    clear hsz
    go_upto_region 8 with (at_builtin; refine wpList_append_ext rfl _ _ _ rfl (X := ((w.alloc (.cells #[.int .u64 id, .int .i64 client, .int .i64 m0, .int .i64 m1, .int .i64 m2, .slice (some ⟨b, off, none⟩) l.length c] 26)).alloc (.cells #[.int .u64 0, .int .i64 0, .int .i64 0, .int .i64 0, .int .i64 0, .slice none 0 0] 26))) (v := .slice none 0 0) ext_alloc i1 _ 32 Try.underlying40 hi1 hy0 hy1 hy2 rfl (by omega) rfl Own.nil A' ie.length _ (flatE ie) rfl (Ents.src (((HE.out.alloc _).alloc _).ext.alloc _)).2 (flatE_one _) (by unfold maxLen; omega) (by omega) ?_; intro v1 y1 hown1 hg1 hat1; rw [Nat.zero_add, List.nil_append] at hown1; obtain ⟨G, cp, rfl⟩ := own_shape hown1; have hbx : (((w.alloc (.cells #[.int .u64 id, .int .i64 client, .int .i64 m0, .int .i64 m1, .int .i64 m2, .slice (some ⟨b, off, none⟩) l.length c] 26)).alloc (.cells #[.int .u64 0, .int .i64 0, .int .i64 0, .int .i64 0, .int .i64 0, .slice none 0 0] 26)).ext y1).heap[w.heap.size + 1 + 1 + y.objs.size]? = some (.cells #[.int .i64 ib, .int .u32 iv, .bool iw, (.slice A' ie.length c'), .int .u32 (ii 0), .int .u32 (ii 1), .int .u32 (ii 2), .int .u32 (ii 3)] 43) := (hg1.block _ (by simp [size_ext]) (by simp [Value.ownBlock])).trans (hp_new (by simp [size_ext])); have k3 : (((w.alloc (.cells #[.int .u64 id, .int .i64 client, .int .i64 m0, .int .i64 m1, .int .i64 m2, .slice (some ⟨b, off, none⟩) l.length c] 26)).alloc (.cells #[.int .u64 0, .int .i64 0, .int .i64 0, .int .i64 0, .int .i64 0, .slice none 0 0] 26)).ext y1).cell? ⟨w.heap.size + 1 + 1 + y.objs.size, 3, none⟩ = some (.slice A' ie.length c') := (by rw [cell_of_heap hbx]; rfl); have kf : (((w.alloc (.cells #[.int .u64 id, .int .i64 client, .int .i64 m0, .int .i64 m1, .int .i64 m2, .slice (some ⟨b, off, none⟩) l.length c] 26)).alloc (.cells #[.int .u64 0, .int .i64 0, .int .i64 0, .int .i64 0, .int .i64 0, .slice none 0 0] 26)).ext y1).frozen? ⟨w.heap.size + 1 + 1 + y.objs.size, 3, none⟩ = false := frozen_of_heap hbx; have HOWN1 := Lib.hid hown1; have HG1 := Lib.hid hg1; have HBX := Lib.hid hbx; clear hown1 hg1 hat1 hbx)
    clear k3 kf
    have hbx1 : (((w.alloc (.cells #[.int .u64 id, .int .i64 client, .int .i64 m0, .int .i64 m1, .int .i64 m2, .slice (some ⟨b, off, none⟩) l.length c] 26)).alloc (.cells #[.int .u64 0, .int .i64 0, .int .i64 0, .int .i64 0, .int .i64 0, .slice none 0 0] 26)).ext y).heap.size = w.heap.size + 1 + 1 + y.objs.size := by simp [size_ext]
    obtain ⟨z, hz⟩ := of_below (w := ((w.alloc (.cells #[.int .u64 id, .int .i64 client, .int .i64 m0, .int .i64 m1, .int .i64 m2, .slice (some ⟨b, off, none⟩) l.length c] 26)).alloc (.cells #[.int .u64 0, .int .i64 0, .int .i64 0, .int .i64 0, .int .i64 0, .slice none 0 0] 26))) (w' := (((w.alloc (.cells #[.int .u64 id, .int .i64 client, .int .i64 m0, .int .i64 m1, .int .i64 m2, .slice (some ⟨b, off, none⟩) l.length c] 26)).alloc (.cells #[.int .u64 0, .int .i64 0, .int .i64 0, .int .i64 0, .int .i64 0, .slice none 0 0] 26)).ext y1).setCell ⟨w.heap.size + 1 + 1 + y.objs.size, 3, none⟩ (.slice G ie.length cp)) (below_ext.setCell (by (try simp only [World.heap_size_alloc, World.size_alloc, size_ext]); (try simp); (try omega)) _)
    have hb2 : (((w.alloc (.cells #[.int .u64 id, .int .i64 client, .int .i64 m0, .int .i64 m1, .int .i64 m2, .slice (some ⟨b, off, none⟩) l.length c] 26)).alloc (.cells #[.int .u64 0, .int .i64 0, .int .i64 0, .int .i64 0, .int .i64 0, .slice none 0 0] 26)).ext z).heap[w.heap.size + 1 + 1 + y.objs.size]? = some (.cells #[.int .i64 ib, .int .u32 iv, .bool iw, (.slice G ie.length cp), .int .u32 (ii 0), .int .u32 (ii 1), .int .u32 (ii 2), .int .u32 (ii 3)] 43) := by rw [← hz]; exact heap_setCell_same _ _ _ _ _ _ HBX.out
    have hq : ∃ q, ((w.alloc (.cells #[.int .u64 id, .int .i64 client, .int .i64 m0, .int .i64 m1, .int .i64 m2, .slice (some ⟨b, off, none⟩) l.length c] 26)).alloc (.cells #[.int .u64 0, .int .i64 0, .int .i64 0, .int .i64 0, .int .i64 0, .slice none 0 0] 26)).ext z = (((w.alloc (.cells #[.int .u64 id, .int .i64 client, .int .i64 m0, .int .i64 m1, .int .i64 m2, .slice (some ⟨b, off, none⟩) l.length c] 26)).alloc (.cells #[.int .u64 0, .int .i64 0, .int .i64 0, .int .i64 0, .int .i64 0, .slice none 0 0] 26)).ext y).ext q := of_below (by
      rw [← hz]
      refine (((Below.refl _ _).alloc (Nat.le_refl _) _).grown HG1.out ?_ (fun k hk => by simp [Value.ownBlock] at hk)).setCell ?_ _
      · simp
      · rw [hbx1]; exact Nat.le_refl _)
    have hown1 : Own ((w.alloc (.cells #[.int .u64 id, .int .i64 client, .int .i64 m0, .int .i64 m1, .int .i64 m2, .slice (some ⟨b, off, none⟩) l.length c] 26)).alloc (.cells #[.int .u64 0, .int .i64 0, .int .i64 0, .int .i64 0, .int .i64 0, .slice none 0 0] 26)) z 58 2 (.slice G ie.length cp) ie.length (flatE ie) := by
      refine HOWN1.out.grown (row := some (w.heap.size + 1 + 1 + y.objs.size)) ?_ (fun g hg hr => ?_)
      · rw [← hz]
        exact ⟨rfl, rfl, rfl, by simp [World.setCell], fun k hk hne => Below.heap_setCell _ _ _ _ (fun e => hne (by rw [e]))⟩
      · exact HOWN1.out.apart HBX.out (by decide) (by rw [hg, hr])
    obtain ⟨hItems, hData⟩ := hown.out
    have hI2 := hItems.more hq
    have hD2 := fun j hj => ((hData j hj).2.1).more hq
    rw [hz]
    have kk := fun i => cell_of_heap (i := i) hb2
    have k0 : (((w.alloc (.cells #[.int .u64 id, .int .i64 client, .int .i64 m0, .int .i64 m1, .int .i64 m2, .slice (some ⟨b, off, none⟩) l.length c] 26)).alloc (.cells #[.int .u64 0, .int .i64 0, .int .i64 0, .int .i64 0, .int .i64 0, .slice none 0 0] 26)).ext z).cell? ⟨w.heap.size + 1 + 1 + y.objs.size, 0, none⟩ = some (.int .i64 ib) := (kk 0).trans rfl
    have k1 : (((w.alloc (.cells #[.int .u64 id, .int .i64 client, .int .i64 m0, .int .i64 m1, .int .i64 m2, .slice (some ⟨b, off, none⟩) l.length c] 26)).alloc (.cells #[.int .u64 0, .int .i64 0, .int .i64 0, .int .i64 0, .int .i64 0, .slice none 0 0] 26)).ext z).cell? ⟨w.heap.size + 1 + 1 + y.objs.size, 1, none⟩ = some (.int .u32 iv) := (kk 1).trans rfl
    have k2 : (((w.alloc (.cells #[.int .u64 id, .int .i64 client, .int .i64 m0, .int .i64 m1, .int .i64 m2, .slice (some ⟨b, off, none⟩) l.length c] 26)).alloc (.cells #[.int .u64 0, .int .i64 0, .int .i64 0, .int .i64 0, .int .i64 0, .slice none 0 0] 26)).ext z).cell? ⟨w.heap.size + 1 + 1 + y.objs.size, 2, none⟩ = some (.bool iw) := (kk 2).trans rfl
    have k3 : (((w.alloc (.cells #[.int .u64 id, .int .i64 client, .int .i64 m0, .int .i64 m1, .int .i64 m2, .slice (some ⟨b, off, none⟩) l.length c] 26)).alloc (.cells #[.int .u64 0, .int .i64 0, .int .i64 0, .int .i64 0, .int .i64 0, .slice none 0 0] 26)).ext z).cell? ⟨w.heap.size + 1 + 1 + y.objs.size, 3, none⟩ = some (.slice G ie.length cp) := (kk 3).trans rfl
    have k4 : (((w.alloc (.cells #[.int .u64 id, .int .i64 client, .int .i64 m0, .int .i64 m1, .int .i64 m2, .slice (some ⟨b, off, none⟩) l.length c] 26)).alloc (.cells #[.int .u64 0, .int .i64 0, .int .i64 0, .int .i64 0, .int .i64 0, .slice none 0 0] 26)).ext z).cell? ⟨w.heap.size + 1 + 1 + y.objs.size, 4, none⟩ = some (.int .u32 (ii 0)) := (kk 4).trans rfl
    have k5 : (((w.alloc (.cells #[.int .u64 id, .int .i64 client, .int .i64 m0, .int .i64 m1, .int .i64 m2, .slice (some ⟨b, off, none⟩) l.length c] 26)).alloc (.cells #[.int .u64 0, .int .i64 0, .int .i64 0, .int .i64 0, .int .i64 0, .slice none 0 0] 26)).ext z).cell? ⟨w.heap.size + 1 + 1 + y.objs.size, 5, none⟩ = some (.int .u32 (ii 1)) := (kk 5).trans rfl
    have k6 : (((w.alloc (.cells #[.int .u64 id, .int .i64 client, .int .i64 m0, .int .i64 m1, .int .i64 m2, .slice (some ⟨b, off, none⟩) l.length c] 26)).alloc (.cells #[.int .u64 0, .int .i64 0, .int .i64 0, .int .i64 0, .int .i64 0, .slice none 0 0] 26)).ext z).cell? ⟨w.heap.size + 1 + 1 + y.objs.size, 6, none⟩ = some (.int .u32 (ii 2)) := (kk 6).trans rfl
    have k7 : (((w.alloc (.cells #[.int .u64 id, .int .i64 client, .int .i64 m0, .int .i64 m1, .int .i64 m2, .slice (some ⟨b, off, none⟩) l.length c] 26)).alloc (.cells #[.int .u64 0, .int .i64 0, .int .i64 0, .int .i64 0, .int .i64 0, .slice none 0 0] 26)).ext z).cell? ⟨w.heap.size + 1 + 1 + y.objs.size, 7, none⟩ = some (.int .u32 (ii 3)) := (kk 7).trans rfl
    have HI2 := Lib.hid hI2
    have HD2 := Lib.hid hD2
    have HDATA := Lib.hid hData
    have HO1 := Lib.hid hown1
    clear hz hb2 hq hown1 hItems hData hI2 hD2 hbx1 kk HG1 HBX HOWN1
    have hs8 : Src ((((w.alloc (.cells #[.int .u64 id, .int .i64 client, .int .i64 m0, .int .i64 m1, .int .i64 m2, .slice (some ⟨b, off, none⟩) l.length c] 26)).alloc (.cells #[.int .u64 0, .int .i64 0, .int .i64 0, .int .i64 0, .int .i64 0, .slice none 0 0] 26)).ext z).alloc (.cells [.int .i64 ib, .int .u32 iv, .bool iw, .slice G ie.length cp, .int .u32 (ii 0), .int .u32 (ii 1), .int .u32 (ii 2), .int .u32 (ii 3)].toArray 43)) (some ⟨w.heap.size + 1 + 1 + z.objs.size, 0, none⟩) 8 1 [.int .i64 ib, .int .u32 iv, .bool iw, .slice G ie.length cp, .int .u32 (ii 0), .int .u32 (ii 1), .int .u32 (ii 2), .int .u32 (ii 3)] := ⟨rfl, fun _ => ⟨_, 0, rfl, src_new (by simp [size_ext])⟩⟩
    have HS8 := Lib.hid hs8
    clear hs8
    go_wp2_with (at_builtin; refine wpList_append_ext rfl _ _ _ rfl (X := ((w.alloc (.cells #[.int .u64 id, .int .i64 client, .int .i64 m0, .int .i64 m1, .int .i64 m2, .slice (some ⟨b, off, none⟩) l.length c] 26)).alloc (.cells #[.int .u64 0, .int .i64 0, .int .i64 0, .int .i64 0, .int .i64 0, .slice none 0 0] 26))) (y := ⟨z.objs.push (.cells [.int .i64 ib, .int .u32 iv, .bool iw, .slice G ie.length cp, .int .u32 (ii 0), .int .u32 (ii 1), .int .u32 (ii 2), .int .u32 (ii 3)].toArray 43), z.n⟩) ext_alloc i0 _ 56 Try.underlying24 hi0 hz0 hz1 hz2 rfl (by omega) rfl (HI2.out.more ⟨_, ext_alloc.symm.trans (ext_alloc_ext _ _)⟩) (some ⟨w.heap.size + 1 + 1 + z.objs.size, 0, none⟩) 1 _ [.int .i64 ib, .int .u32 iv, .bool iw, .slice G ie.length cp, .int .u32 (ii 0), .int .u32 (ii 1), .int .u32 (ii 2), .int .u32 (ii 3)] rfl HS8.out (by simp [Value.oneCell']) (by unfold maxLen; omega) (by omega) ?_; intro v2 y2 hown2 hg2 hat2)
    go_roundw
    case rel =>
      refine ⟨i + 1, y2, v2, fun j => if j = i then ⟨ib, iv, iw, .slice G ie.length cp, ie, ii⟩ else L j, by omega, vint (by omega), rfl, rfl, Lib.hid ?_, Lib.hid ?_⟩
      · have hIz := HI2.out.more ⟨_, ext_alloc.symm.trans (ext_alloc_ext _ (.cells [.int .i64 ib, .int .u32 iv, .bool iw, .slice G ie.length cp, .int .u32 (ii 0), .int .u32 (ii 1), .int .u32 (ii 2), .int .u32 (ii 3)].toArray 43))⟩
        rw [ext_alloc] at hg2
        refine ⟨?_, fun j hj => ?_⟩
        · have e : flatI (fun j => if j = i then (⟨ib, iv, iw, .slice G ie.length cp, ie, ii⟩ : ItemR) else L j) (i + 1) = flatI L i ++ [.int .i64 ib, .int .u32 iv, .bool iw, .slice G ie.length cp, .int .u32 (ii 0), .int .u32 (ii 1), .int .u32 (ii 2), .int .u32 (ii 3)] := by
            show flatI _ i ++ _ = _
            rw [flatI_congr (M := L) i (fun j hj => by simp [show j ≠ i by omega])]
            simp [ItemR.cells]
          rw [e]
          exact hown2
        · by_cases e : j = i
          · subst e
            simp only [if_true]
            exact ⟨⟨G, cp, rfl⟩, (HO1.out.more ⟨_, ext_alloc.symm.trans (ext_alloc_ext _ (.cells [.int .i64 ib, .int .u32 iv, .bool iw, .slice G ie.length cp, .int .u32 (ii 0), .int .u32 (ii 1), .int .u32 (ii 2), .int .u32 (ii 3)].toArray 43))⟩).beside hIz (by decide) hg2, HE.out.1, HSZ.out⟩
          · simp only [e, if_false]
            have hd := HDATA.out j (by omega)
            exact ⟨hd.1, ((HD2.out j (by omega)).more ⟨_, ext_alloc.symm.trans (ext_alloc_ext _ (.cells [.int .i64 ib, .int .u32 iv, .bool iw, .slice G ie.length cp, .int .u32 (ii 0), .int .u32 (ii 1), .int .u32 (ii 2), .int .u32 (ii 3)].toArray 43))⟩).beside hIz (by decide) hg2, hd.2.2⟩
      · intro j x hj hx
        by_cases e : j = i
        · subst e
          rw [HX.out] at hx
          injection hx with hx
          subst hx
          exact ⟨.slice G ie.length cp, by simp⟩
        · simp only [e, if_false]
          exact hL.out j x (by omega) hx
    case measure => simp [intOf]; omega
end Go.Proofs.Yteheajddplkmdaa
