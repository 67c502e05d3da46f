/- The world of votes, with its managers, in memory. -/
import Derived.Test.YtplliabmnhigbaaAgrB19
set_option linter.unusedVariables false
set_option linter.unusedSimpArgs false
namespace Go.Proofs.Ytplliabmnhigbaa
open Go.RowKit Go.Tk
theorem snoc_at {α : Type} {l : List α} {x T : α} {k j : Nat} (hk : l.length = k) (h : (l ++ [x])[j]? = some T) : (j ≠ k ∧ l[j]? = some T) ∨ (j = k ∧ T = x) := by
  by_cases e : j < l.length
  · rw [List.getElem?_append_left e] at h
    exact .inl ⟨by omega, h⟩
  · rw [List.getElem?_append_right (by omega)] at h
    cases e2 : j - l.length with
    | zero =>
      rw [e2] at h
      simp only [List.getElem?_cons_zero, Option.some.injEq] at h
      exact .inr ⟨by omega, h.symm⟩
    | succ m => rw [e2] at h; simp at h
structure MgM where
  mb : Nat
  mp : Nat
  OA : Option Addr
  oc : Nat
  E : EntM
def mgF (M : MgM) : Asn := mgrA M.mb M.mp M.OA M.oc [M.E]
theorem factsP_tabF {w : World} {L : List Asn} {T : TabM} : factsP w (tabF T :: L) = factsP w L := rfl
theorem ptb_tabF {L : List Asn} {T : TabM} : ptb (tabF T :: L) = ptb L := rfl
theorem upd_tabF {L : List Asn} {T : TabM} {b j : Nat} {v : Value} : upd (tabF T :: L) b j v = tabF T :: upd L b j v := rfl
theorem factsP_mgF {w : World} {L : List Asn} {M : MgM} : factsP w (mgF M :: L) = factsP w L := rfl
theorem ptb_mgF {L : List Asn} {M : MgM} : ptb (mgF M :: L) = ptb L := rfl
theorem upd_mgF {L : List Asn} {M : MgM} {b j : Nat} {v : Value} : upd (mgF M :: L) b j v = mgF M :: upd L b j v := rfl
theorem factsP_mgrA {w : World} {L : List Asn} {mb mp oc : Nat} {OA : Option Addr} {es : List EntM} : factsP w (mgrA mb mp OA oc es :: L) = factsP w L := rfl
theorem ptb_mgrA {L : List Asn} {mb mp oc : Nat} {OA : Option Addr} {es : List EntM} : ptb (mgrA mb mp OA oc es :: L) = ptb L := rfl
theorem upd_mgrA {L : List Asn} {mb mp oc : Nat} {OA : Option Addr} {es : List EntM} {b j : Nat} {v : Value} : upd (mgrA mb mp OA oc es :: L) b j v = mgrA mb mp OA oc es :: upd L b j v := rfl
theorem factsP_all : (∀ (M : MgM) (w : World) (L : List Asn), factsP w (mgF M :: L) = factsP w L) ∧ (∀ (T : TabM) (w : World) (L : List Asn), factsP w (tabF T :: L) = factsP w L) ∧ (∀ (mb mp oc : Nat) (OA : Option Addr) (es : List EntM) (w : World) (L : List Asn), factsP w (mgrA mb mp OA oc es :: L) = factsP w L) ∧ (∀ (tb mb : Nat) (most : Int) (m : Rows10) (w : World) (L : List Asn), factsP w (tabA tb mb most m :: L) = factsP w L) ∧ (∀ (α : Type) (f : α → Asn) (l : List α) (w : World) (L : List Asn), factsP w (fam f l :: L) = factsP w L) ∧ (∀ (α : Type) (e : TypeId) (size : Nat) (cs : α → List Value) (A : Option Addr) (c : Nat) (l : List α) (w : World) (L : List Asn), factsP w (listA e size cs A c l :: L) = factsP w L) :=
  ⟨by intros; rfl, by intros; rfl, by intros; rfl, by intros; rfl, by intros; rfl, by intros; rfl⟩
theorem ptb_all : (∀ (M : MgM) (L : List Asn), ptb (mgF M :: L) = ptb L) ∧ (∀ (T : TabM) (L : List Asn), ptb (tabF T :: L) = ptb L) ∧ (∀ (mb mp oc : Nat) (OA : Option Addr) (es : List EntM) (L : List Asn), ptb (mgrA mb mp OA oc es :: L) = ptb L) ∧ (∀ (tb mb : Nat) (most : Int) (m : Rows10) (L : List Asn), ptb (tabA tb mb most m :: L) = ptb L) ∧ (∀ (α : Type) (f : α → Asn) (l : List α) (L : List Asn), ptb (fam f l :: L) = ptb L) ∧ (∀ (α : Type) (e : TypeId) (size : Nat) (cs : α → List Value) (A : Option Addr) (c : Nat) (l : List α) (L : List Asn), ptb (listA e size cs A c l :: L) = ptb L) :=
  ⟨by intros; rfl, by intros; rfl, by intros; rfl, by intros; rfl, by intros; rfl, by intros; rfl⟩
theorem upd_all : (∀ (M : MgM) (L : List Asn) (b j : Nat) (v : Value), upd (mgF M :: L) b j v = mgF M :: upd L b j v) ∧ (∀ (T : TabM) (L : List Asn) (b j : Nat) (v : Value), upd (tabF T :: L) b j v = tabF T :: upd L b j v) ∧ (∀ (mb mp oc : Nat) (OA : Option Addr) (es : List EntM) (L : List Asn) (b j : Nat) (v : Value), upd (mgrA mb mp OA oc es :: L) b j v = mgrA mb mp OA oc es :: upd L b j v) ∧ (∀ (tb mb : Nat) (most : Int) (m : Rows10) (L : List Asn) (b j : Nat) (v : Value), upd (tabA tb mb most m :: L) b j v = tabA tb mb most m :: upd L b j v) ∧ (∀ (α : Type) (f : α → Asn) (l : List α) (L : List Asn) (b j : Nat) (v : Value), upd (fam f l :: L) b j v = fam f l :: upd L b j v) ∧ (∀ (α : Type) (e : TypeId) (size : Nat) (cs : α → List Value) (A : Option Addr) (c : Nat) (l : List α) (L : List Asn) (b j : Nat) (v : Value), upd (listA e size cs A c l :: L) b j v = listA e size cs A c l :: upd L b j v) :=
  ⟨by intros; rfl, by intros; rfl, by intros; rfl, by intros; rfl, by intros; rfl, by intros; rfl⟩
structure Mans (ms : List MgM) (pm : Nat → Option Addr) : Prop where
  len : ms.length = 3
  at_ : ∀ k M, ms[k]? = some M → pm k = some ⟨M.mb, 0, none⟩
theorem Mans.get {ms : List MgM} {pm : Nat → Option Addr} (h : Mans ms pm) {k : Nat} (hk : k < 3) : ∃ M, ms[k]? = some M ∧ pm k = some ⟨M.mb, 0, none⟩ := by
  have hl : k < ms.length := by rw [h.len]; exact hk
  exact ⟨ms[k], List.getElem?_eq_getElem hl, h.at_ k _ (List.getElem?_eq_getElem hl)⟩
theorem Mans.set {ms : List MgM} {pm : Nat → Option Addr} (h : Mans ms pm) {k : Nat} {M M' : MgM} (hk : ms[k]? = some M) (hb : M'.mb = M.mb) : Mans (ms.set k M') pm := by
  refine ⟨by rw [List.length_set]; exact h.len, fun j U hU => ?_⟩
  by_cases e : k = j
  · subst e
    rw [set_eq (List.getElem?_eq_some_iff.1 hk).1] at hU
    injection hU with hU
    subst hU
    rw [hb]
    exact h.at_ k M hk
  · rw [set_ne e] at hU
    exact h.at_ j U hU
structure EvR where
  kind : Int
  i : Int
  r : Int
  a : Int
  m : Int
  n : Int
  yes : Bool
def EvR.cells (v : EvR) : List Value := [.int .i64 v.kind, .int .i64 v.i, .int .i64 v.r, .int .i64 v.a, .int .i64 v.m, .int .i64 v.n, .bool v.yes]
def EvR.ok (v : EvR) : Prop := inI64 v.i ∧ inI64 v.r ∧ inI64 v.a ∧ inI64 v.m ∧ inI64 v.n
def txCells (t : TxS) : List Value := [.int .u64 t.id, .int .i64 t.client, .int .i64 t.m0, .int .i64 t.m1, .int .i64 t.m2, .slice t.A t.s.length t.c]
/-- the parts of the world -/
def wldL (xb tb : Nat) (t : TxS) (ws : List Value) (ts : List TabM) (ms : List MgM) (LA : Option Addr) (lc : Nat) (l : List HdW) : List Asn :=
  [.pt xb ws 83, fam tabF ts, fam mgF ms, hdA LA lc l, .pt tb (txCells t) 26]
def AG (w0 : World) (xb tb : Nat) (t : TxS) (n : Nat) (d : Int) (W : World) : Prop :=
  ∃ wd own ws pt pm ts ms LA lc, Wc ws t.id t.A t.s.length t.c pt pm own wd.round LA wd.l.length lc ∧ Tabs ts pt wd.acc ∧ Mans ms pm ∧ AW t wd n d own (ms.map (·.E)) ∧ Mem w0 [] W (wldL xb tb t ws ts ms LA lc wd.l)
theorem updO_updO (own : Nat → Nat → ByteArray) (i r : Nat) (a b : ByteArray) : updO (updO own i r a) i r b = updO own i r b := by
  funext i' r'
  unfold updO
  split <;> rfl
theorem updO_same (own : Nat → Nat → ByteArray) (i r : Nat) (v : ByteArray) : updO own i r v i r = v := if_pos ⟨rfl, rfl⟩
def AGv (w0 : World) (X : List Asn) (P : (Nat → Nat → ByteArray) → Prop) (xb tb : Nat) (t : TxS) (n : Nat) (d : Int) (W : World) : Prop :=
  ∃ wd own ws pt pm ts ms LA lc, Wc ws t.id t.A t.s.length t.c pt pm own wd.round LA wd.l.length lc ∧ Tabs ts pt wd.acc ∧ Mans ms pm ∧ AW t wd n d own (ms.map (·.E)) ∧ P own ∧ Mem w0 [] W (X ++ wldL xb tb t ws ts ms LA lc wd.l)
theorem inst_ok {t : TxS} (hr : t.r.right = true) (hid : (Lit.int .u64 t.id).wf = true) {i r : Nat} {x : ItS} (hx : t.s[i]? = some x) (h4 : r < 4) : (⟨t.id, x.bucket, (r : Int), 0⟩ : Inst).tx = t.id ∧ (⟨t.id, x.bucket, (r : Int), 0⟩ : Inst).ix = 0 ∧ (⟨t.id, x.bucket, (r : Int), 0⟩ : Inst).wf := by
  obtain ⟨_, _, _, _, r5⟩ := TxR.right_parts hr
  have := right_bucket (s := t.s) r5 (List.mem_of_getElem? hx)
  exact ⟨rfl, rfl, instWf hid (by simp [Lit.wf, IntKind.min, IntKind.max, IntKind.signed, IntKind.bits]; omega) (by omega)⟩
section
variable (w : World)
theorem x_NewT : Calls Try.prog 27 #[.int .i64 4096] w (fun e w' => ∃ x : Nat × Nat, e = .returned (.tuple #[.pointer (some ⟨x.1, 0, none⟩), .int .i64 0]) ∧ Mem w [] w' [tabF ⟨x.1, x.2, []⟩]) :=
  (m_NewT w 4096 ⟨by omega, by omega⟩).mono fun e w' ⟨he, h⟩ => ⟨(w.heap.size + 1, w.heap.size), he, h⟩
theorem x_New : Calls Try.prog 7 #[] w (fun e w' => ∃ x : Nat × Nat, e = .returned (.pointer (some ⟨x.1, 0, none⟩)) ∧ Mem w [] w' [mgrA x.1 x.2 none 0 []]) :=
  (m_New w).mono fun e w' ⟨mb, mp, he, h⟩ => ⟨(mb, mp), he, Mem.shut (by simpa using h)⟩
theorem pre_open {l : List Asn} (h : Pre w [bun l]) : Pre w l := by
  have h1 := Mem.open_ h
  have e : foots [bun l] = foots l := by simp [foots, foot_bun]
  rw [e, List.append_nil] at h1
  exact h1
theorem mem_shut {w' : World} {l l' : List Asn} (h : Mem w (foots l) w' l') : Mem w (foots [bun l]) w' [bun l'] := by
  have e : foots [bun l] = foots l := by simp [foots, foot_bun]
  rw [e]
  exact Mem.shut (by simpa using h)
theorem x_Know (x : Nat × Nat) (t : TxS) (h : Pre w [mgrA x.1 x.2 none 0 []]) (ht : ∀ W, Fr (foots [mgrA x.1 x.2 none 0 []]) w W → t.At W) (hr : t.r.right = true) :
    Calls Try.prog 10 #[.pointer (some ⟨x.1, 0, none⟩), t.val] w (fun e w' => ∃ M : MgM, (M.mb = x.1 ∧ M.E.new t) ∧ e = .returned (.int .i64 0) ∧ Mem w (foots [mgrA x.1 x.2 none 0 []]) w' [mgF M]) := by
  have e : foots [mgrA x.1 x.2 none 0 []] = foots (mgrL x.1 x.2 none 0 []) := by simp [foots, mgrA, foot_bun]
  rw [e] at ht
  refine (m_Know_new w x.1 x.2 none 0 [] t (pre_open w h) ht hr (by simp) (by simp)).mono ?_
  rintro e w' ⟨rfl, OA', oc', E, hE, o⟩
  exact ⟨⟨x.1, x.2, OA', oc', E⟩, ⟨rfl, hE⟩, rfl, mem_shut w o⟩
theorem x_nd (M : MgM) (h : Pre w [mgF M]) : (keysOf M.E.ls).Nodup := by
  have h1 : Mem w _ w (mgrL M.mb M.mp M.OA M.oc [M.E]) := pre_open w h
  have O2 := mgr_open (L := []) (i := 0) (by rw [List.append_nil]; exact h1) rfl
  have := MapAt.nodup (κ := instKey) (vv := ptrV) (b := M.E.lb) (m := M.E.ls.map lnPtr) (O2.map (by simp [EntM.parts]))
  simpa [keysOf, lnPtr, Function.comp_def] using this
theorem x_Hear (M : MgM) (t : TxS) (l : List HdW) (hM : ME t l M.E) (h : Pre w [mgF M]) (bucket replica : Int) (k : Nat) (b : Ballot) (v : ByteArray) (hm : (⟨⟨t.id, bucket, replica, 0⟩, k, b, v⟩ : HdW) ∈ l) (hwf : (⟨t.id, bucket, replica, 0⟩ : Inst).wf) :
    Calls Try.prog 13 #[.pointer (some ⟨M.mb, 0, none⟩), .int .u64 t.id, .int .i64 bucket, .int .i64 replica, .int .i64 (k : Int), b.val, .string v] w (fun e w' => ∃ x : MgM × Value, (x.1.mb = M.mb ∧ ME t l x.1.E ∧ (M.E.d ≠ 0 → x.1.E.d = M.E.d)) ∧ e = .returned x.2 ∧ Mem w (foots [mgF M]) w' [mgF x.1]) := by
  have hid := hM.id
  have hnd := x_nd w M h
  have hwf' : (⟨M.E.id, bucket, replica, 0⟩ : Inst).wf := by rw [hid]; exact hwf
  rw [← hid]
  refine (m_Hear w M.mb M.mp M.OA M.oc [M.E] 0 M.E rfl hM.good (hM.lnok hnd) (pre_open w h) bucket replica k b v hwf').mono ?_
  rintro e w' ⟨rfl, ls', hls, o⟩
  obtain ⟨h1, h2⟩ := hM.hear hm hls
  exact ⟨(⟨M.mb, M.mp, M.OA, M.oc, { M.E with ls := ls', d := (M.E.hears bucket replica k b v).2.2.2 }⟩, _), ⟨rfl, h1, h2⟩, rfl, mem_shut w o⟩
theorem x_Decision (M : MgM) (t : TxS) (l : List HdW) (hM : ME t l M.E) (h : Pre w [mgF M]) :
    Calls Try.prog 15 #[.pointer (some ⟨M.mb, 0, none⟩), .int .u64 t.id] w (fun e w' => e = .returned (.tuple #[.int .i64 M.E.d, .int .i64 0]) ∧ Mem w [] w' []) := by
  rw [← hM.id]
  exact m_Decision w M.mb M.mp M.OA M.oc [M.E] 0 M.E rfl hM.good.id (pre_open w h)
end
end Go.Proofs.Ytplliabmnhigbaa
