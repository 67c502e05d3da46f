/- MEMORY: the world of votes. -/
import Derived.Test.YtplliabmnhigbaaAgrR19
import Derived.Test.YtplliabmnhigbaaAccMem19
import Derived.Test.YtplliabmnhigbaaOE19
set_option linter.unusedVariables false
set_option linter.unusedSimpArgs false
namespace Go.Proofs.Ytplliabmnhigbaa
open Go.RowKit Go.Tk
theorem _root_.Go.Tk.ptCell {w0 w : World} {F : List Nat} {L : List Asn} {b j : Nat} {cs : List Value} {t : TypeId} {v : Value} (h : Mem w0 F w L) (hm : Asn.pt b cs t ∈ L) (hv : cs[j]? = some v) : roomP b w.heap.size ∧ w.cell? ⟨b, j, none⟩ = some v := by
  have a := h.hold (.pt b cs t) hm
  refine ⟨roomP_of (lt_of_heap a), (cell_of_heap a).trans ?_⟩
  rw [List.getElem?_toArray]
  exact hv
/-- what was accepted, in memory -/
def hdCells (e : HdW) : List Value := [.int .i64 e.i.b, .int .i64 e.i.r, .int .i64 (e.k : Int), .int .u32 e.b.r, .int .u8 e.b.n, .string e.v]
theorem hdLen (e : HdW) : (hdCells e).length = 6 := rfl
theorem hdTy : ElTy Try.prog 81 89 6 hdCells ⟨⟨0, 0, 0, 0⟩, 0, noB, .empty⟩ :=
  ⟨Try.underlying81, by kernel_rfl, by kernel_rfl, by omega, fun _ => rfl, fun a u h => by simp [hdCells] at h; rcases h with rfl | rfl | rfl | rfl | rfl | rfl <;> rfl⟩
abbrev hdA (LA : Option Addr) (lc : Nat) (l : List HdW) : Asn := listA 89 6 hdCells LA lc l
/-- the cells of the world -/
structure Wc (cs : List Value) (id : Int) (tA : Option Addr) (tn tc : Nat) (pt pm : Nat → Option Addr) (own : Nat → Nat → ByteArray) (round : Int) (LA : Option Addr) (ln lc : Nat) : Prop where
  len : cs.length = 46
  id : cs[0]? = some (.int .u64 id)
  items : cs[5]? = some (.slice tA tn tc)
  acc : ∀ k, k < 3 → cs[6 + k]? = some (.pointer (pt k))
  man : ∀ k, k < 3 → cs[9 + k]? = some (.pointer (pm k))
  own : ∀ i r, i < 8 → r < 4 → cs[12 + (i * 4 + r)]? = some (.string (own i r))
  round : cs[44]? = some (.int .u32 round)
  l : cs[45]? = some (.slice LA ln lc)
section
variable {cs : List Value} {id : Int} {tA : Option Addr} {tn tc : Nat} {pt pm : Nat → Option Addr} {own : Nat → Nat → ByteArray} {round : Int} {LA : Option Addr} {ln lc : Nat}
theorem set_ne {α : Type} {l : List α} {j k : Nat} {v : α} (h : j ≠ k) : (l.set j v)[k]? = l[k]? := by rw [List.getElem?_set, if_neg h]
theorem set_eq {α : Type} {l : List α} {j : Nat} {v : α} (h : j < l.length) : (l.set j v)[j]? = some v := by rw [List.getElem?_set, if_pos rfl, if_pos h]
theorem Wc.setL (h : Wc cs id tA tn tc pt pm own round LA ln lc) (LA' : Option Addr) (ln' lc' : Nat) : Wc (cs.set 45 (.slice LA' ln' lc')) id tA tn tc pt pm own round LA' ln' lc' :=
  ⟨by rw [List.length_set]; exact h.len, by rw [set_ne (by omega)]; exact h.id, by rw [set_ne (by omega)]; exact h.items, fun k hk => by rw [set_ne (by omega)]; exact h.acc k hk, fun k hk => by rw [set_ne (by omega)]; exact h.man k hk, fun i r hi hr => by rw [set_ne (by omega)]; exact h.own i r hi hr, by rw [set_ne (by omega)]; exact h.round, set_eq (by rw [h.len]; omega)⟩
theorem Wc.setR (h : Wc cs id tA tn tc pt pm own round LA ln lc) (x : Int) : Wc (cs.set 44 (.int .u32 x)) id tA tn tc pt pm own x LA ln lc :=
  ⟨by rw [List.length_set]; exact h.len, by rw [set_ne (by omega)]; exact h.id, by rw [set_ne (by omega)]; exact h.items, fun k hk => by rw [set_ne (by omega)]; exact h.acc k hk, fun k hk => by rw [set_ne (by omega)]; exact h.man k hk, fun i r hi hr => by rw [set_ne (by omega)]; exact h.own i r hi hr, set_eq (by rw [h.len]; omega), by rw [set_ne (by omega)]; exact h.l⟩
def updO (own : Nat → Nat → ByteArray) (i r : Nat) (v : ByteArray) : Nat → Nat → ByteArray := fun i' r' => if i' = i ∧ r' = r then v else own i' r'
theorem Wc.setO (h : Wc cs id tA tn tc pt pm own round LA ln lc) {i r : Nat} (hi : i < 8) (hr : r < 4) (v : ByteArray) : Wc (cs.set (12 + (i * 4 + r)) (.string v)) id tA tn tc pt pm (updO own i r v) round LA ln lc :=
  ⟨by rw [List.length_set]; exact h.len, by rw [set_ne (by omega)]; exact h.id, by rw [set_ne (by omega)]; exact h.items, fun k hk => by rw [set_ne (by omega)]; exact h.acc k hk, fun k hk => by rw [set_ne (by omega)]; exact h.man k hk, fun i' r' hi' hr' => by
    unfold updO
    by_cases e : i' = i ∧ r' = r
    · obtain ⟨rfl, rfl⟩ := e
      rw [if_pos ⟨rfl, rfl⟩]
      exact set_eq (by rw [h.len]; omega)
    · rw [if_neg e, set_ne (by omega)]
      exact h.own i' r' hi' hr', by rw [set_ne (by omega)]; exact h.round, by rw [set_ne (by omega)]; exact h.l⟩
theorem Wc.setA (h : Wc cs id tA tn tc pt pm own round LA ln lc) {k : Nat} (hk : k < 3) (a : Option Addr) : Wc (cs.set (6 + k) (.pointer a)) id tA tn tc (upd3 pt k a) pm own round LA ln lc :=
  ⟨by rw [List.length_set]; exact h.len, by rw [set_ne (by omega)]; exact h.id, by rw [set_ne (by omega)]; exact h.items, fun j hj => by
    by_cases e : j = k
    · subst e
      rw [upd3_same]
      exact set_eq (by rw [h.len]; omega)
    · rw [upd3_ne _ _ e, set_ne (by omega)]
      exact h.acc j hj, fun k hk => by rw [set_ne (by omega)]; exact h.man k hk, fun i r hi hr => by rw [set_ne (by omega)]; exact h.own i r hi hr, by rw [set_ne (by omega)]; exact h.round, by rw [set_ne (by omega)]; exact h.l⟩
theorem Wc.setM (h : Wc cs id tA tn tc pt pm own round LA ln lc) {k : Nat} (hk : k < 3) (a : Option Addr) : Wc (cs.set (9 + k) (.pointer a)) id tA tn tc pt (upd3 pm k a) own round LA ln lc :=
  ⟨by rw [List.length_set]; exact h.len, by rw [set_ne (by omega)]; exact h.id, by rw [set_ne (by omega)]; exact h.items, fun j hj => by rw [set_ne (by omega)]; exact h.acc j hj, fun j hj => by
    by_cases e : j = k
    · subst e
      rw [upd3_same]
      exact set_eq (by rw [h.len]; omega)
    · rw [upd3_ne _ _ e, set_ne (by omega)]
      exact h.man j hj, fun i r hi hr => by rw [set_ne (by omega)]; exact h.own i r hi hr, by rw [set_ne (by omega)]; exact h.round, by rw [set_ne (by omega)]; exact h.l⟩
theorem wcZero (id client m0 m1 m2 : Int) (A : Option Addr) (n c : Nat) : Wc ([.int .u64 id, .int .i64 client, .int .i64 m0, .int .i64 m1, .int .i64 m2, .slice A n c] ++ List.replicate 6 (.pointer none) ++ List.replicate 32 (.string .empty) ++ [.int .u32 0, .slice none 0 0]) id A n c (fun _ => none) (fun _ => none) (fun _ _ => .empty) 0 none 0 0 :=
  ⟨rfl, rfl, rfl, fun k hk => by
    obtain rfl | rfl | rfl : k = 0 ∨ k = 1 ∨ k = 2 := by omega
    all_goals rfl, fun k hk => by
    obtain rfl | rfl | rfl : k = 0 ∨ k = 1 ∨ k = 2 := by omega
    all_goals rfl, fun i r hi hr => by
    rw [List.getElem?_append_left (by simp; omega), List.getElem?_append_right (by simp), List.getElem?_replicate, if_pos (by simp; omega)], rfl, rfl⟩
end
/-- a table in memory, as a member of a family -/
structure TabM where
  tb : Nat
  mb : Nat
  m : Rows10
def tabF (T : TabM) : Asn := tabA T.tb T.mb 4096 T.m
def Wd.next (w : Wd) : Wd := { w with round := w.round + 1 }
def prepTo (w : Wd) (i : Inst) (b : Ballot) (out : Nat) : Nat → Wd
  | 0 => w
  | k + 1 => if k = out then prepTo w i b out k else (prepTo w i b out k).prepare i k b
def takeTo (w : Wd) (i : Inst) (out : Nat) : Nat → ByteArray × Ballot × Bool
  | 0 => (aB, noB, false)
  | k + 1 => if k = out then takeTo w i out k else takeV (takeTo w i out k) (aOf (mget (w.acc k) i))
def accTo (w : Wd) (i : Inst) (b : Ballot) (v : ByteArray) (out : Nat) : Nat → Wd
  | 0 => w
  | k + 1 => if k = out then accTo w i b v out k else (accTo w i b v out k).accept i k b v
def Wd.prop (w : Wd) (i : Inst) (out : Nat) (by_ : Int) : Wd := accTo (prepTo w.next i (w.ballot by_) out 3) i (w.ballot by_) (takeTo w i out 3).1 out 3
theorem Wd.prop_eq (w : Wd) (i : Inst) {out : Nat} (h : out < 3) (by_ : Int) : ∃ k1 k2, k1 < 3 ∧ k2 < 3 ∧ k1 ≠ k2 ∧ k1 ≠ out ∧ k2 ≠ out ∧ w.prop i out by_ = w.propose i k1 k2 by_ := by
  obtain rfl | rfl | rfl : out = 0 ∨ out = 1 ∨ out = 2 := by omega
  · exact ⟨1, 2, by omega, by omega, by omega, by omega, by omega, rfl⟩
  · exact ⟨0, 2, by omega, by omega, by omega, by omega, by omega, rfl⟩
  · exact ⟨0, 1, by omega, by omega, by omega, by omega, by omega, rfl⟩
theorem prepTo_later (w : Wd) (i : Inst) (b : Ballot) (out : Nat) : ∀ k j, k ≤ j → (prepTo w i b out k).acc j = w.acc j
  | 0, _, _ => rfl
  | k + 1, j, h => by
    unfold prepTo
    split
    · exact prepTo_later w i b out k j (by omega)
    · rw [← prepTo_later w i b out k j (by omega)]
      exact upd3_ne _ _ (by omega)
theorem prepTo_rest (w : Wd) (i : Inst) (b : Ballot) (out : Nat) : ∀ k, (prepTo w i b out k).own = w.own ∧ (prepTo w i b out k).l = w.l ∧ (prepTo w i b out k).round = w.round
  | 0 => ⟨rfl, rfl, rfl⟩
  | k + 1 => by
    unfold prepTo
    split
    · exact prepTo_rest w i b out k
    · exact prepTo_rest w i b out k
theorem accTo_rest (w : Wd) (i : Inst) (b : Ballot) (v : ByteArray) (out : Nat) : ∀ k, (accTo w i b v out k).own = w.own ∧ (accTo w i b v out k).round = w.round ∧ (accTo w i b v out k).l.length ≤ w.l.length + k
  | 0 => ⟨rfl, rfl, Nat.le_refl _⟩
  | k + 1 => by
    obtain ⟨h1, h2, h3⟩ := accTo_rest w i b v out k
    unfold accTo
    split
    · exact ⟨h1, h2, by omega⟩
    · refine ⟨h1, h2, ?_⟩
      unfold Wd.accept
      simp only
      split
      · rw [List.length_append]; simp; omega
      · omega
theorem accept_l (w : Wd) (i : Inst) (k : Nat) (b : Ballot) (v : ByteArray) : ∀ e ∈ (w.accept i k b v).l, e ∈ w.l ∨ (e.i = i ∧ e.k = k ∧ e.b = b ∧ e.v = v) := fun e he => by
  unfold Wd.accept at he
  simp only at he
  split at he
  · rcases List.mem_append.1 he with h | h
    · exact .inl h
    · simp only [List.mem_singleton] at h
      subst h
      exact .inr ⟨rfl, rfl, rfl, rfl⟩
  · exact .inl he
theorem accept_sub (w : Wd) (i : Inst) (k : Nat) (b : Ballot) (v : ByteArray) : ∀ e ∈ w.l, e ∈ (w.accept i k b v).l := fun e he => by
  unfold Wd.accept
  simp only
  split
  · exact List.mem_append_left _ he
  · exact he
/-- a manager in the world -/
structure ME (t : TxS) (l : List HdW) (E : EntM) : Prop where
  id : E.id = t.id
  right : E.tx.right = true
  core : E.s.map ItS.core = t.s.map ItS.core
  good : E.good
  mg : Mg l E.id E.s (plnOf E.ls) E.d
theorem ME.more {t : TxS} {l l' : List HdW} {E : EntM} (h : ME t l E) (hs : ∀ e ∈ l, e ∈ l') : ME t l' E := ⟨h.id, h.right, h.core, h.good, h.mg.more hs⟩
theorem ME.lnok {t : TxS} {l : List HdW} {E : EntM} (h : ME t l E) (hnd : (keysOf E.ls).Nodup) : ∀ x ∈ E.ls, LnOk x.2.l := fun x hx => by
  obtain ⟨j, hj⟩ := List.mem_iff_getElem?.1 hx
  have h1 := mget_at hnd (k := x.1) (v := x.2) hj
  have h2 : mget (plnOf E.ls) x.1 = some x.2.l := by rw [mget_pln, h1]; rfl
  exact h.mg.kn.ok _ _ h2
theorem ME.new {t : TxS} {E : EntM} (h : E.new t) (ht : ∃ w, t.At w) (hr : t.r.right = true) : ME t [] E := by
  obtain ⟨h1, h2, h3, h4, h5, _⟩ := OE.new (fr := fun _ _ => 0) h ht hr
  refine ⟨h1, h2, h3, h4, h5, fun i ln hl => ?_⟩
  rw [show plnOf E.ls = (visits t.id E.s).map (fun v => (v.i, newL 3)) from h.ls] at hl
  obtain ⟨v, hv, he⟩ := List.mem_map.1 (mget_mem hl)
  simp only [Prod.mk.injEq] at he
  rw [← he.2]
  exact Tru.new _ _
theorem ME.hear {t : TxS} {l : List HdW} {E : EntM} (h : ME t l E) {bucket replica : Int} {k : Nat} {b : Ballot} {v : ByteArray} (hm : (⟨⟨t.id, bucket, replica, 0⟩, k, b, v⟩ : HdW) ∈ l) {ls' : List (Inst × LnM)}
    (hl : plnOf ls' = (E.hears bucket replica k b v).2.2.1) :
    ME t l { E with ls := ls', d := (E.hears bucket replica k b v).2.2.2 } ∧ (E.d ≠ 0 → (E.hears bucket replica k b v).2.2.2 = E.d) := by
  have hh : E.hears bucket replica k b v = hear11 true E.id E.s (plnOf E.ls) E.d bucket replica k b v := by
    unfold EntM.hears
    rw [h.right]
  rw [hh] at hl ⊢
  obtain ⟨k1, k2⟩ := h.mg.hear (k := k) (b := b) (v := v) (by rw [h.id]; exact hm)
  rw [← hl] at k1
  refine ⟨⟨h.id, h.right, h.core, ⟨h.good.id, h.good.m0, h.good.m1, h.good.m2, h.good.len, h.good.bk, fun v hv => ?_⟩, k1⟩, k2⟩
  obtain ⟨y, hy, hr', hinc, hi⟩ := visits_mem hv
  have := k1.kn.has v.k v.r y hy hr' hinc
  rw [← hi, mget_pln] at this
  simpa using this
theorem core_VV {id : Int} {s s' : List ItS} (h : s'.map ItS.core = s.map ItS.core) (pls : List (Inst × Learn11)) : VV id s' pls = VV id s pls := by
  funext i r
  unfold VV
  cases hx : s[i]? with
  | none =>
    have hl : s'.length = s.length := by simpa using congrArg List.length h
    have : s'[i]? = none := by rw [List.getElem?_eq_none_iff] at hx ⊢; omega
    rw [this]
  | some x =>
    obtain ⟨y, hy, hc⟩ := core_get h hx
    obtain ⟨_, c2, c3⟩ := core_right hc
    rw [hy]
    simp only [c2, c3]
theorem core_incs {s s' : List ItS} (h : s'.map ItS.core = s.map ItS.core) : incsOf (s'.map ItS.r) = incsOf (s.map ItS.r) := by
  funext i
  cases hx : s[i]? with
  | none =>
    have hl : s'.length = s.length := by simpa using congrArg List.length h
    have : s'[i]? = none := by rw [List.getElem?_eq_none_iff] at hx ⊢; omega
    simp [incsOf, hx, this]
  | some x =>
    obtain ⟨y, hy, hc⟩ := core_get h hx
    rw [incs_at hx, incs_at hy, (core_right hc).2.2]
theorem core_buckets {s s' : List ItS} (h : s'.map ItS.core = s.map ItS.core) : s'.map (·.bucket) = s.map (·.bucket) := by
  refine List.ext_getElem? (fun i => ?_)
  simp only [List.getElem?_map]
  cases hx : s[i]? with
  | none =>
    have hl : s'.length = s.length := by simpa using congrArg List.length h
    have : s'[i]? = none := by rw [List.getElem?_eq_none_iff] at hx ⊢; omega
    rw [this]
  | some x =>
    obtain ⟨y, hy, hc⟩ := core_get h hx
    rw [hy]
    simp [(core_right hc).2.1]
theorem Kn.core {id : Int} {s s' : List ItS} {pls : List (Inst × Learn11)} {d : Int} (hk : Kn id s' pls d) (h : s'.map ItS.core = s.map ItS.core) : Kn id s pls d := by
  have hl : s'.length = s.length := by simpa using congrArg List.length h
  refine ⟨by rw [← core_buckets h]; exact hk.nd, fun k r x hx hr hinc => ?_, fun i hi => ?_, hk.ok, ?_⟩
  · obtain ⟨y, hy, hc⟩ := core_get h hx
    obtain ⟨_, c2, c3⟩ := core_right hc
    have := hk.has k r y hy hr (by rw [c3]; exact hinc)
    rw [c2] at this
    exact this
  · obtain ⟨k, r, y, hy, hr, hinc, hi⟩ := hk.only i hi
    obtain ⟨x, hx, hc⟩ := core_get h.symm hy
    obtain ⟨_, c2, c3⟩ := core_right hc
    exact ⟨k, r, x, hx, hr, by rw [c3]; exact hinc, by rw [c2]; exact hi⟩
  · rw [hk.d, decideOf_eq, decideOf_eq, core_VV h, core_incs h, hl]
theorem Mg.core {l : List HdW} {id : Int} {s s' : List ItS} {pls : List (Inst × Learn11)} {d : Int} (hk : Mg l id s' pls d) (h : s'.map ItS.core = s.map ItS.core) : Mg l id s pls d := ⟨hk.kn.core h, hk.tru⟩
/-- the whole world of votes, behind n events -/
structure AW (t : TxS) (wd : Wd) (n : Nat) (d : Int) (own : Nat → Nat → ByteArray) (es : List EntM) : Prop where
  ok : WdOk wd n
  mg : ∀ (k : Nat) E, es[k]? = some E → ME t wd.l E
  own : ∀ (i : Nat) x r, t.s[i]? = some x → r < 4 → own i r = wd.own ⟨t.id, x.bucket, (r : Int), 0⟩
  d : d ≠ 0 → ∃ (k : Nat) (E : EntM), es[k]? = some E ∧ E.d = d
  rd : 0 ≤ wd.round ∧ wd.round ≤ n
  hl : wd.l.length ≤ 2 * n
  hs : ∀ e ∈ wd.l, e.i.tx = t.id ∧ e.i.ix = 0 ∧ e.i.wf
theorem AW.zero {t : TxS} {es : List EntM} (h : ∀ (k : Nat) E, es[k]? = some E → ME t [] E) : AW t Wd.zero 0 0 (fun _ _ => .empty) es :=
  ⟨WdOk.zero, h, fun _ _ _ _ _ => rfl, fun h => absurd rfl h, ⟨Int.le_refl _, Int.le_refl _⟩, Nat.le_refl _, fun e he => by simp [Wd.zero] at he⟩
theorem pcnt_ext {f g : Nat → ByteArray} : ∀ m, (∀ r, r < m → f r = g r) → pcnt f m = pcnt g m
  | 0, _ => rfl
  | m + 1, h => by
    simp only [pcnt, pcnt_ext m (fun r hr => h r (by omega)), h m (by omega)]
section
variable {t : TxS} {wd : Wd} {n : Nat} {d : Int} {own : Nat → Nat → ByteArray} {es : List EntM}
theorem AW.mono {m : Nat} (h : AW t wd n d own es) (hm : n ≤ m) : AW t wd m d own es := ⟨h.ok.mono hm, h.mg, h.own, h.d, ⟨h.rd.1, by have := h.rd.2; omega⟩, by have := h.hl; omega, h.hs⟩
theorem AW.hear (h : AW t wd n d own es) {k : Nat} {E E' : EntM} (hk : es[k]? = some E) (hE : ME t wd.l E') (hd : E.d ≠ 0 → E'.d = E.d) : AW t wd (n + 1) d own (es.set k E') := by
  have h := h.mono (Nat.le_succ n)
  have hlt := (List.getElem?_eq_some_iff.1 hk).1
  refine ⟨h.ok, fun j F hF => ?_, h.own, fun h0 => ?_, h.rd, h.hl, h.hs⟩
  · by_cases e : k = j
    · subst e
      rw [set_eq hlt] at hF
      injection hF with hF
      exact hF ▸ hE
    · rw [set_ne e] at hF
      exact h.mg j F hF
  · obtain ⟨j, F, hF, hFd⟩ := h.d h0
    by_cases e : k = j
    · subst e
      rw [hk] at hF
      injection hF with hF
      subst hF
      exact ⟨k, E', set_eq hlt, by rw [hd (by rw [hFd]; exact h0), hFd]⟩
    · exact ⟨j, F, by rw [set_ne e]; exact hF, hFd⟩
theorem AW.see (h : AW t wd n d own es) {k : Nat} {E : EntM} (hk : es[k]? = some E) : ¬ (E.d ≠ 0 ∧ d ≠ 0 ∧ E.d ≠ d) ∧ AW t wd n (if E.d ≠ 0 then E.d else d) own es := by
  refine ⟨fun ⟨h1, h2, h3⟩ => ?_, h.ok, h.mg, h.own, fun h0 => ?_, h.rd, h.hl, h.hs⟩
  · obtain ⟨j, F, hF, hFd⟩ := h.d h2
    have hE := h.mg k E hk
    have hM := h.mg j F hF
    have a := hE.mg
    have b := hM.mg
    apply h3
    have hce : (E.s.map ItS.core) = F.s.map ItS.core := hE.core.trans hM.core.symm
    have a := a.core hce
    rw [hE.id] at a
    rw [hM.id] at b
    rw [a.agree h.ok b h1 (by rw [hFd]; exact h2), hFd]
  · by_cases h1 : E.d ≠ 0
    · rw [if_pos h1]
      exact ⟨k, E, hk, rfl⟩
    · rw [if_neg h1] at h0 ⊢
      exact h.d h0
/-- a vote's value is set -/
theorem AW.set (h : AW t wd n d own es) (hnd : (t.s.map (·.bucket)).Nodup) {i r : Nat} {x : ItS} (hx : t.s[i]? = some x) (hr : r < 4) (he : wd.own ⟨t.id, x.bucket, (r : Int), 0⟩ = .empty) (v : ByteArray) : AW t (wd.set ⟨t.id, x.bucket, (r : Int), 0⟩ v) n d (updO own i r v) es := by
  refine ⟨h.ok.set he v, h.mg, fun i' y r' hy hr' => ?_, h.d, h.rd, h.hl, h.hs⟩
  unfold updO Wd.set
  simp only
  by_cases e : i' = i ∧ r' = r
  · obtain ⟨rfl, rfl⟩ := e
    rw [hx] at hy
    injection hy with hy
    subst hy
    rw [if_pos ⟨rfl, rfl⟩, if_pos rfl]
  · rw [if_neg e, if_neg (fun hc => ?_)]
    · exact h.own i' y r' hy hr'
    · simp only [Inst.mk.injEq] at hc
      apply e
      refine ⟨?_, by omega⟩
      have h1 : (t.s.map (·.bucket))[i']? = some y.bucket := by rw [List.getElem?_map, hy]; rfl
      have h2 : (t.s.map (·.bucket))[i]? = some x.bucket := by rw [List.getElem?_map, hx]; rfl
      rw [hc.2.1, ← h2] at h1
      exact (List.getElem?_inj (by have := (List.getElem?_eq_some_iff.1 hy).1; simpa using this) hnd).1 h1
/-- a vote goes to an acceptor -/
theorem AW.vote (h : AW t wd n d own es) (hn : 2 * n < 4096) {i : Inst} (hi : wd.own i ≠ .empty) {k : Nat} (hk : k < 3) (hit : i.tx = t.id ∧ i.ix = 0 ∧ i.wf) : AW t (wd.accept i k noB (wd.own i)) (n + 1) d own es := by
  refine ⟨h.ok.vote hn hi hk, fun j E hE => (h.mg j E hE).more (accept_sub _ _ _ _ _), h.own, h.d, ⟨h.rd.1, by have := h.rd.2; show wd.round ≤ _; omega⟩, ?_, fun e he => ?_⟩
  · have := h.hl
    unfold Wd.accept
    simp only
    split
    · rw [List.length_append]; simp; omega
    · omega
  · rcases accept_l _ _ _ _ _ e he with h1 | h1
    · exact h.hs e h1
    · rw [h1.1]; exact hit
/-- a proposal -/
theorem AW.prop (h : AW t wd n d own es) (hn : 2 * n + 1 < 4096) {i : Inst} {out : Nat} (ho : out < 3) (by_ : Int) (hit : i.tx = t.id ∧ i.ix = 0 ∧ i.wf) : AW t (wd.prop i out by_) (n + 1) d own es := by
  obtain ⟨k1, k2, a1, a2, a3, a4, a5, he⟩ := wd.prop_eq i ho by_
  rw [he]
  have hok := h.ok.propose hn i a1 a2 a3 a4 a5 ho by_
  obtain ⟨_, _, hq⟩ := Wd.propose_eq h.ok hn i a1 a2 a3 by_
  have e1 : (wd.propose i k1 k2 by_).own = wd.own := by rw [hq]
  have e2 : (wd.propose i k1 k2 by_).round = wd.round + 1 := by rw [hq]
  have e3 : (wd.propose i k1 k2 by_).l = wd.l ++ [⟨i, k1, wd.ballot by_, wd.value i k1 k2⟩, ⟨i, k2, wd.ballot by_, wd.value i k1 k2⟩] := by rw [hq]
  refine ⟨hok, fun j E hE => (h.mg j E hE).more (fun e he => by rw [e3]; exact List.mem_append_left _ he), fun i' x r hx hr => by rw [e1]; exact h.own i' x r hx hr, h.d, ⟨by rw [e2]; have := h.rd.1; omega, by rw [e2]; have := h.rd.2; omega⟩, by rw [e3, List.length_append]; have := h.hl; simp; omega, fun e he => ?_⟩
  rw [e3] at he
  rcases List.mem_append.1 he with h1 | h1
  · exact h.hs e h1
  · simp only [List.mem_cons, List.not_mem_nil, or_false] at h1
    rcases h1 with rfl | rfl
    · exact hit
    · exact hit
/-- commit -/
theorem AW.commit (h : AW t wd n 1 own es) {i : Nat} {x : ItS} (hx : t.s[i]? = some x) : 3 ≤ pcnt (own i) 4 := by
  obtain ⟨k, E, hE, hd⟩ := h.d (by omega)
  have hM := h.mg k E hE
  have hg := hM.mg
  rw [hd] at hg
  obtain ⟨y, hy, hc⟩ := core_get hM.core hx
  have := hg.commit h.ok hy
  rw [(core_right hc).2.1, hM.id] at this
  refine Nat.le_trans this (Nat.le_of_eq (pcnt_ext 4 (fun r hr => ?_)))
  exact (h.own i x r hx hr).symm
end
end Go.Proofs.Ytplliabmnhigbaa
