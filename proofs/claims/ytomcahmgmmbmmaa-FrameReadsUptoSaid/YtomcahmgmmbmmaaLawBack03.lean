/- PROVED: what was wrapped is unwrapped, and a change within four bytes is refused (FrameBack): for arguments of bulk at most 1048576, the law returns true, and each argument reads behind the call as it read before. -/
import Derived.Test.YtomcahmgmmbmmaaAwake03
import Derived.Test.YtomcahmgmmbmmaaBackPlain03
import Derived.Test.YtomcahmgmmbmmaaArgs
set_option linter.unusedVariables false
set_option linter.unusedSimpArgs false
namespace Go.Proofs.Ytomcahmgmmbmmaa
open Go.RowKit Go.WideShapes Go.ChangeShapes Go.ChangeAt Go.Tk
theorem bound8' {n : Int} (h : (Lit.int .u8 n).wf = true) : 0 ≤ n ∧ n ≤ 255 := by
  simp only [Lit.wf, IntKind.min, IntKind.max, IntKind.signed, IntKind.bits, Bool.and_eq_true, decide_eq_true_eq] at h
  simp at h
  omega
theorem bound64' {n : Int} (h : (Lit.int .i64 n).wf = true) : -9223372036854775808 ≤ n ∧ n ≤ 9223372036854775807 := by
  simp only [Lit.wf, IntKind.min, IntKind.max, IntKind.signed, IntKind.bits, Bool.and_eq_true, decide_eq_true_eq] at h
  simp at h
  omega
theorem cells_u8' : Try.prog.cellsOf 5 = 1 := by kernel_rfl
/-- an argument of bytes -/
theorem read_bytes {w : World} {N f : Nat} {v : Value} (h : Typed Try.prog w N f 22 [v]) : ∃ A c l, v = .slice A (l : List UInt8).length c ∧ l.length ≤ c ∧ l.length ≤ N ∧ Rd w A l ∧ (A = none → c = 0) := by
  obtain ⟨A, len, cap, f', hv, hlen, hi⟩ := typed_slice Try.underlying22 (by rw [cells_u8']; omega) h
  have hcap : len ≤ cap ∧ (A = none → cap = 0) := by
    cases f with
    | zero => exact h.elim
    | succ f =>
      unfold Typed at h
      rw [Try.underlying22] at h
      rcases h with h | ⟨a, len', cap', h, h2, _⟩
      · rw [h] at hv
        simp at hv
        obtain ⟨rfl, rfl, rfl⟩ := hv
        exact ⟨Nat.le_refl _, fun _ => rfl⟩
      · rw [h] at hv
        simp at hv
        obtain ⟨rfl, rfl, rfl⟩ := hv
        exact ⟨h2, fun x => by simp at x⟩
  rw [cells_u8'] at hi
  have hall : ∀ i, i < len → ∃ x : UInt8, ∃ b off, A = some ⟨b, off, none⟩ ∧ b < w.heap.size ∧ w.cell? ⟨b, off + i, none⟩ = some (.int .u8 (x.toNat : Int)) := by
    intro i hlt
    obtain ⟨b, off, cs', hA, hb, hcl, hcc, hty⟩ := hi i hlt
    obtain ⟨n, rfl, hn⟩ := typed_int Try.underlying5 hty
    have hn2 := bound8' hn
    obtain ⟨k, rfl⟩ := Int.eq_ofNat_of_zero_le hn2.1
    refine ⟨UInt8.ofNat k, b, off, hA, hb, ?_⟩
    have := hcc 0 _ rfl
    rw [Nat.mul_one, Nat.add_zero] at this
    rw [this]
    have hk : k % 256 = k := by omega
    simp [UInt8.toNat_ofNat', hk]
  obtain ⟨l, hl, hr⟩ := list_of_all hall
  subst hl
  exact ⟨A, cap, l, by simpa using hv, hcap.1, hlen, ⟨fun i x hx => hr i x hx⟩, hcap.2⟩
theorem bits_xor8 (x y : UInt8) : bits .xor .u8 (x.toNat : Int) (y.toNat : Int) = ((x ^^^ y).toNat : Int) := by
  simp only [bits]
  show IntKind.u8.wrap ((BitVec.ofInt 8 (x.toNat : Int) ^^^ BitVec.ofInt 8 (y.toNat : Int)).toNat : Int) = _
  have h : ∀ z : UInt8, BitVec.ofInt 8 (z.toNat : Int) = z.toBitVec := fun z => by
    rw [BitVec.ofInt_natCast]
    exact BitVec.eq_of_toNat_eq (by simp)
  rw [h, h]
  have e : (x.toBitVec ^^^ y.toBitVec).toNat = (x ^^^ y).toNat := rfl
  rw [e]
  have h3 : ∀ n : Nat, n < 256 → IntKind.u8.wrap (n : Int) = n := by
    intro n hn
    simp [IntKind.wrap, IntKind.bits, IntKind.signed]
    omega
  exact h3 _ (by have := (x ^^^ y).toNat_lt; omega)
theorem set_spoil {P m : List UInt8} {a i : Nat} {ch : Bool} {x : UInt8} (h : m.length = P.length ∧ (∀ q, q < a ∨ windowEnd a ≤ q → m[q]? = P[q]?) ∧ (∀ q, a + i ≤ q → m[q]? = P[q]?) ∧ (ch = true → m ≠ P) ∧ (ch = false → m = P)) (hx : m[a + i]? = some x) (hw : a + i < windowEnd a) (z : UInt8) :
    (m.set (a + i) (x ^^^ z)).length = P.length ∧ (∀ q, q < a ∨ windowEnd a ≤ q → (m.set (a + i) (x ^^^ z))[q]? = P[q]?) ∧ (∀ q, a + (i + 1) ≤ q → (m.set (a + i) (x ^^^ z))[q]? = P[q]?) ∧ ((ch || decide (z ≠ 0)) = true → m.set (a + i) (x ^^^ z) ≠ P) ∧ ((ch || decide (z ≠ 0)) = false → m.set (a + i) (x ^^^ z) = P) := by
  obtain ⟨h1, h2, h3, h4, h5⟩ := h
  have hlt := (List.getElem?_eq_some_iff.1 hx).1
  have hPx : P[a + i]? = some x := by rw [← h3 (a + i) (Nat.le_refl _)]; exact hx
  refine ⟨by simpa using h1, fun q hq => ?_, fun q hq => ?_, fun hc he => ?_, fun hc => ?_⟩
  · rw [List.getElem?_set_ne (by omega)]
    exact h2 q hq
  · rw [List.getElem?_set_ne (by omega)]
    exact h3 q (by omega)
  · by_cases hz : z = 0
    · have hch : ch = true := by simpa [hz] using hc
      apply h4 hch
      rw [← he]
      have : x ^^^ z = x := by rw [hz]; simp
      rw [this]
      exact (List.ext_getElem? fun q => by
        by_cases hq : a + i = q
        · subst hq; rw [List.getElem?_set_self hlt]; exact hx
        · rw [List.getElem?_set_ne hq])
    · have : (m.set (a + i) (x ^^^ z))[a + i]? = some x := by rw [he]; exact hPx
      rw [List.getElem?_set_self hlt] at this
      injection this with this
      apply hz
      have h6 := congrArg (x ^^^ ·) this
      simpa [← UInt8.xor_assoc] using h6
  · simp only [Bool.or_eq_false_iff, decide_eq_false_iff_not, Classical.not_not] at hc
    have : x ^^^ z = x := by rw [hc.2]; simp
    rw [this, ← h5 hc.1]
    exact (List.ext_getElem? fun q => by
      by_cases hq : a + i = q
      · subst hq; rw [List.getElem?_set_self hlt]; exact hx.symm
      · rw [List.getElem?_set_ne hq])
def atP (c : Int) (n : Nat) : Nat := ((if c < 0 then -(c + 1) else c) % (n : Int)).toNat
theorem atP_lt (c : Int) (n : Nat) (h : 0 < n) : atP c n < n := by
  unfold atP
  have h1 := Int.emod_nonneg (if c < 0 then -(c + 1) else c) (show (n : Int) ≠ 0 by omega)
  have h2 := Int.emod_lt_of_pos (if c < 0 then -(c + 1) else c) (show (0 : Int) < n by omega)
  omega
set_option maxRecDepth 100000 in
set_option maxHeartbeats 16000000 in
theorem walkBack (A : Option Addr) (c : Nat) (l : List UInt8) (at0 : Int) (B : Option Addr) (d : Nat) (y : List UInt8) (w : World) (hr : Rd w A l) (hc : l.length ≤ c) (hl : l.length ≤ 1048576) (hat : -9223372036854775808 ≤ at0 ∧ at0 ≤ 9223372036854775807) (hy : Rd w B y) (hyl : y.length ≤ 1048576) :
    Calls Try.prog 4 #[.slice A l.length c, .int .i64 at0, .slice B y.length d] w (fun e w' => e = .returned (.bool true) ∧ Below w.heap.size w w') := by
  have O : Mem w [] w [] := Mem.begin
  have HR := Lib.hid hr
  have HY := Lib.hid hy
  clear hr hy
  by_cases hbig : 65536 < l.length
  · have HB := Lib.hid hbig
    have hbi : (65536 : Int) < l.length := by omega
    clear hbig
    go_enter Try.func4, Try.ntmps4
    have cs := O.facts
    simp only [factsP, cellsP, roomP, foots_cons, foots_nil, foots_append, foot_pt, ptb, ptb_mapA, foot_mapA, factsP_mapA, foot_bun, List.append_nil, List.nil_append, List.cons_append, List.nodup_cons, List.nodup_nil, List.mem_cons, List.not_mem_nil, List.mem_singleton, List.forall_mem_cons, not_or, not_false_eq_true, and_true, true_and, or_false, false_or, forall_eq_or_imp, forall_eq, implies_true, Nat.zero_add, Nat.reduceAdd, and_assoc, ptb_listA, factsP_listA, Nat.mul_one, rdL, byteCells] at cs
    go_wp2_with fail
    first | apply Mem.atCall | apply Mem.atCode | apply Mem.atList
    case h => repeat' (first | (with_reducible exact O) | (with_reducible apply Mem.drew) | (with_reducible apply Mem.drewN) | (with_reducible apply Mem.ext) | (with_reducible apply Mem.alloc) | (with_reducible apply Mem.setCell) | (simp only [ptb, ptb_upd, foots_cons, List.mem_cons, World.size_alloc, size_ext, World.size_setCell, true_or, or_true, eq_self_iff_true]))
    case' k =>
      intro w1 O'
      (try clear O)
      have O := O'
      clear O'
      (first | simp only [sel, rst, List.cons_append, List.nil_append, World.size_alloc, size_ext, World.size_setCell, size_setMap, World.size_drew, size_drewN, upd, List.set_cons_zero, List.set_cons_succ, if_true, if_false, reduceIte, not_false_eq_true, ne_lt0, ne_lt1, ne_lt2, ne_lt3, ne_lt4, cs] at O | simp only [sel, rst, List.cons_append, List.nil_append, World.size_alloc, size_ext, World.size_setCell, size_setMap, World.size_drew, size_drewN, upd, List.set_cons_zero, List.set_cons_succ, if_true, if_false, reduceIte, not_false_eq_true, ne_lt0, ne_lt1, ne_lt2, ne_lt3, ne_lt4] at O | skip)
      (try clear cs)
      (try clear v1)
      (try clear v2)
      (try clear v3)
    refine (law_awake _).mono ?_
    rintro e w2 ⟨rfl, o⟩
    replace O := O.callp [] o
    clear o
    simp only [put, List.cons_append, List.nil_append] at O
    have cs := O.facts
    simp only [factsP, cellsP, roomP, foots_cons, foots_nil, foots_append, foot_pt, ptb, ptb_mapA, foot_mapA, factsP_mapA, foot_bun, List.append_nil, List.nil_append, List.cons_append, List.nodup_cons, List.nodup_nil, List.mem_cons, List.not_mem_nil, List.mem_singleton, List.forall_mem_cons, not_or, not_false_eq_true, and_true, true_and, or_false, false_or, forall_eq_or_imp, forall_eq, implies_true, Nat.zero_add, Nat.reduceAdd, and_assoc, ptb_listA, factsP_listA, Nat.mul_one, rdL, byteCells] at cs
    go_wp2_with fail
    first | apply Mem.atCall | apply Mem.atCode | apply Mem.atList
    case h => repeat' (first | (with_reducible exact O) | (with_reducible apply Mem.drew) | (with_reducible apply Mem.drewN) | (with_reducible apply Mem.ext) | (with_reducible apply Mem.alloc) | (with_reducible apply Mem.setCell) | (simp only [ptb, ptb_upd, foots_cons, List.mem_cons, World.size_alloc, size_ext, World.size_setCell, true_or, or_true, eq_self_iff_true]))
    case' k =>
      intro w3 O'
      (try clear O)
      have O := O'
      clear O'
      (first | simp only [sel, rst, List.cons_append, List.nil_append, World.size_alloc, size_ext, World.size_setCell, size_setMap, World.size_drew, size_drewN, upd, List.set_cons_zero, List.set_cons_succ, if_true, if_false, reduceIte, not_false_eq_true, ne_lt0, ne_lt1, ne_lt2, ne_lt3, ne_lt4, cs] at O | simp only [sel, rst, List.cons_append, List.nil_append, World.size_alloc, size_ext, World.size_setCell, size_setMap, World.size_drew, size_drewN, upd, List.set_cons_zero, List.set_cons_succ, if_true, if_false, reduceIte, not_false_eq_true, ne_lt0, ne_lt1, ne_lt2, ne_lt3, ne_lt4] at O | skip)
      (try clear cs)
      (try clear v1)
      (try clear v2)
      (try clear v3)
    refine (fr_Wrap_long _ A c l HB.out).mono ?_
    rintro e w4 ⟨rfl, o⟩
    replace O := O.callp [] o
    clear o
    simp only [put, List.cons_append, List.nil_append] at O
    have cs := O.facts
    simp only [factsP, cellsP, roomP, foots_cons, foots_nil, foots_append, foot_pt, ptb, ptb_mapA, foot_mapA, factsP_mapA, foot_bun, List.append_nil, List.nil_append, List.cons_append, List.nodup_cons, List.nodup_nil, List.mem_cons, List.not_mem_nil, List.mem_singleton, List.forall_mem_cons, not_or, not_false_eq_true, and_true, true_and, or_false, false_or, forall_eq_or_imp, forall_eq, implies_true, Nat.zero_add, Nat.reduceAdd, and_assoc, ptb_listA, factsP_listA, Nat.mul_one, rdL, byteCells] at cs
    go_wp2_with fail
    go_ret
    exact ⟨rfl, O.fr.below rfl⟩
  · have HL := Lib.hid (show l.length ≤ 65536 by omega)
    clear hbig
    have hwl := wrapP_len l
    have HWL := Lib.hid hwl
    have hn0 : 0 < (wrapP l).length := by omega
    have hal := atP_lt at0 (wrapP l).length hn0
    obtain ⟨a, ha⟩ : ∃ a, a = atP at0 (wrapP l).length := ⟨_, rfl⟩
    rw [← ha] at hal
    have HA := Lib.hid ha
    have HUW := Lib.hid (unwrap_wrap l HL.out)
    clear ha hwl hn0
    go_enter Try.func4, Try.ntmps4
    have cs := O.facts
    simp only [factsP, cellsP, roomP, foots_cons, foots_nil, foots_append, foot_pt, ptb, ptb_mapA, foot_mapA, factsP_mapA, foot_bun, List.append_nil, List.nil_append, List.cons_append, List.nodup_cons, List.nodup_nil, List.mem_cons, List.not_mem_nil, List.mem_singleton, List.forall_mem_cons, not_or, not_false_eq_true, and_true, true_and, or_false, false_or, forall_eq_or_imp, forall_eq, implies_true, Nat.zero_add, Nat.reduceAdd, and_assoc, ptb_listA, factsP_listA, Nat.mul_one, rdL, byteCells] at cs
    go_wp2_with fail
    first | apply Mem.atCall | apply Mem.atCode | apply Mem.atList
    case h => repeat' (first | (with_reducible exact O) | (with_reducible apply Mem.drew) | (with_reducible apply Mem.drewN) | (with_reducible apply Mem.ext) | (with_reducible apply Mem.alloc) | (with_reducible apply Mem.setCell) | (simp only [ptb, ptb_upd, foots_cons, List.mem_cons, World.size_alloc, size_ext, World.size_setCell, true_or, or_true, eq_self_iff_true]))
    case' k =>
      intro w1 O'
      (try clear O)
      have O := O'
      clear O'
      (first | simp only [sel, rst, List.cons_append, List.nil_append, World.size_alloc, size_ext, World.size_setCell, size_setMap, World.size_drew, size_drewN, upd, List.set_cons_zero, List.set_cons_succ, if_true, if_false, reduceIte, not_false_eq_true, ne_lt0, ne_lt1, ne_lt2, ne_lt3, ne_lt4, cs] at O | simp only [sel, rst, List.cons_append, List.nil_append, World.size_alloc, size_ext, World.size_setCell, size_setMap, World.size_drew, size_drewN, upd, List.set_cons_zero, List.set_cons_succ, if_true, if_false, reduceIte, not_false_eq_true, ne_lt0, ne_lt1, ne_lt2, ne_lt3, ne_lt4] at O | skip)
      (try clear cs)
      (try clear v1)
      (try clear v2)
      (try clear v3)
    refine (law_awake _).mono ?_
    rintro e w2 ⟨rfl, o⟩
    replace O := O.callp [] o
    clear o
    simp only [put, List.cons_append, List.nil_append] at O
    have cs := O.facts
    simp only [factsP, cellsP, roomP, foots_cons, foots_nil, foots_append, foot_pt, ptb, ptb_mapA, foot_mapA, factsP_mapA, foot_bun, List.append_nil, List.nil_append, List.cons_append, List.nodup_cons, List.nodup_nil, List.mem_cons, List.not_mem_nil, List.mem_singleton, List.forall_mem_cons, not_or, not_false_eq_true, and_true, true_and, or_false, false_or, forall_eq_or_imp, forall_eq, implies_true, Nat.zero_add, Nat.reduceAdd, and_assoc, ptb_listA, factsP_listA, Nat.mul_one, rdL, byteCells] at cs
    go_wp2_with fail
    first | apply Mem.atCall | apply Mem.atCode | apply Mem.atList
    case h => repeat' (first | (with_reducible exact O) | (with_reducible apply Mem.drew) | (with_reducible apply Mem.drewN) | (with_reducible apply Mem.ext) | (with_reducible apply Mem.alloc) | (with_reducible apply Mem.setCell) | (simp only [ptb, ptb_upd, foots_cons, List.mem_cons, World.size_alloc, size_ext, World.size_setCell, true_or, or_true, eq_self_iff_true]))
    case' k =>
      intro w3 O'
      (try clear O)
      have O := O'
      clear O'
      (first | simp only [sel, rst, List.cons_append, List.nil_append, World.size_alloc, size_ext, World.size_setCell, size_setMap, World.size_drew, size_drewN, upd, List.set_cons_zero, List.set_cons_succ, if_true, if_false, reduceIte, not_false_eq_true, ne_lt0, ne_lt1, ne_lt2, ne_lt3, ne_lt4, cs] at O | simp only [sel, rst, List.cons_append, List.nil_append, World.size_alloc, size_ext, World.size_setCell, size_setMap, World.size_drew, size_drewN, upd, List.set_cons_zero, List.set_cons_succ, if_true, if_false, reduceIte, not_false_eq_true, ne_lt0, ne_lt1, ne_lt2, ne_lt3, ne_lt4] at O | skip)
      (try clear cs)
      (try clear v1)
      (try clear v2)
      (try clear v3)
    refine (fr_Wrap _ A c l (HR.out.fr O.fr) HL.out).mono ?_
    rintro e w4 ⟨Ab, cb, rfl, o⟩
    replace O := O.callp [] o
    clear o
    simp only [put, List.cons_append, List.nil_append] at O
    have cs := O.facts
    simp only [factsP, cellsP, roomP, foots_cons, foots_nil, foots_append, foot_pt, ptb, ptb_mapA, foot_mapA, factsP_mapA, foot_bun, List.append_nil, List.nil_append, List.cons_append, List.nodup_cons, List.nodup_nil, List.mem_cons, List.not_mem_nil, List.mem_singleton, List.forall_mem_cons, not_or, not_false_eq_true, and_true, true_and, or_false, false_or, forall_eq_or_imp, forall_eq, implies_true, Nat.zero_add, Nat.reduceAdd, and_assoc, ptb_listA, factsP_listA, Nat.mul_one, rdL, byteCells] at cs
    go_wp2_with fail
    first | apply Mem.atCall | apply Mem.atCode | apply Mem.atList
    case h => repeat' (first | (with_reducible exact O) | (with_reducible apply Mem.drew) | (with_reducible apply Mem.drewN) | (with_reducible apply Mem.ext) | (with_reducible apply Mem.alloc) | (with_reducible apply Mem.setCell) | (simp only [ptb, ptb_upd, foots_cons, List.mem_cons, World.size_alloc, size_ext, World.size_setCell, true_or, or_true, eq_self_iff_true]))
    case' k =>
      intro w5 O'
      (try clear O)
      have O := O'
      clear O'
      (first | simp only [sel, rst, List.cons_append, List.nil_append, World.size_alloc, size_ext, World.size_setCell, size_setMap, World.size_drew, size_drewN, upd, List.set_cons_zero, List.set_cons_succ, if_true, if_false, reduceIte, not_false_eq_true, ne_lt0, ne_lt1, ne_lt2, ne_lt3, ne_lt4, cs] at O | simp only [sel, rst, List.cons_append, List.nil_append, World.size_alloc, size_ext, World.size_setCell, size_setMap, World.size_drew, size_drewN, upd, List.set_cons_zero, List.set_cons_succ, if_true, if_false, reduceIte, not_false_eq_true, ne_lt0, ne_lt1, ne_lt2, ne_lt3, ne_lt4] at O | skip)
      (try clear cs)
      (try clear v1)
      (try clear v2)
      (try clear v3)
    have hcap := (listA_cap (O.hold (bytesA Ab cb (wrapP l)) (by simp))).1
    have HCAP := Lib.hid hcap
    clear hcap
    have C := fun W hR => fr_Unwrap W Ab cb (wrapP l) hR HCAP.out (by rw [HWL.out]; have := HL.out; omega)
    rw [HUW.out] at C
    simp only [Option.getD_some] at C
    have CU := Lib.hid C
    clear C
    refine (CU.out _ (Mem.rd (c := cb) O (by simp))).mono ?_
    rintro e w6 ⟨Ax, cx, rfl, o⟩
    replace O := O.callp [] o
    clear o
    simp only [put, List.cons_append, List.nil_append] at O
    have cs := O.facts
    simp only [factsP, cellsP, roomP, foots_cons, foots_nil, foots_append, foot_pt, ptb, ptb_mapA, foot_mapA, factsP_mapA, foot_bun, List.append_nil, List.nil_append, List.cons_append, List.nodup_cons, List.nodup_nil, List.mem_cons, List.not_mem_nil, List.mem_singleton, List.forall_mem_cons, not_or, not_false_eq_true, and_true, true_and, or_false, false_or, forall_eq_or_imp, forall_eq, implies_true, Nat.zero_add, Nat.reduceAdd, and_assoc, ptb_listA, factsP_listA, Nat.mul_one, rdL, byteCells] at cs
    go_wp2_with fail
    first | apply Mem.atCall | apply Mem.atCode | apply Mem.atList
    case h => repeat' (first | (with_reducible exact O) | (with_reducible apply Mem.drew) | (with_reducible apply Mem.drewN) | (with_reducible apply Mem.ext) | (with_reducible apply Mem.alloc) | (with_reducible apply Mem.setCell) | (simp only [ptb, ptb_upd, foots_cons, List.mem_cons, World.size_alloc, size_ext, World.size_setCell, true_or, or_true, eq_self_iff_true]))
    case' k =>
      intro w7 O'
      (try clear O)
      have O := O'
      clear O'
      (first | simp only [sel, rst, List.cons_append, List.nil_append, World.size_alloc, size_ext, World.size_setCell, size_setMap, World.size_drew, size_drewN, upd, List.set_cons_zero, List.set_cons_succ, if_true, if_false, reduceIte, not_false_eq_true, ne_lt0, ne_lt1, ne_lt2, ne_lt3, ne_lt4, cs] at O | simp only [sel, rst, List.cons_append, List.nil_append, World.size_alloc, size_ext, World.size_setCell, size_setMap, World.size_drew, size_drewN, upd, List.set_cons_zero, List.set_cons_succ, if_true, if_false, reduceIte, not_false_eq_true, ne_lt0, ne_lt1, ne_lt2, ne_lt3, ne_lt4] at O | skip)
      (try clear cs)
      (try clear v1)
      (try clear v2)
      (try clear v3)
    refine (r_Same _ Ax cx l A c l (Mem.rd (c := cx) O (by simp)) (HR.out.fr O.fr) (by have := HL.out; omega)).mono ?_
    rintro e w8 ⟨rfl, o⟩
    replace O := O.callp [] o
    clear o
    simp only [put, List.cons_append, List.nil_append] at O
    have hd : decide (l = l) = true := by simp
    rw [hd]
    clear hd
    obtain ⟨P, hP⟩ : ∃ P, P = wrapP l := ⟨_, rfl⟩
    rw [← hP] at O HWL HA hal HUW HCAP ⊢
    have HP := Lib.hid hP
    clear hP CU
    have q1 : ((P.length : Int) == (l.length : Int) + 10) = true := by have := HWL.out; simp; omega
    have q2 : ((P.length : Int) = (l.length : Int) + 10) = True := by have := HWL.out; simp; omega
    have q3 : (0 : Int) < P.length := by omega
    have q4 : (P.length : Int) ≤ 65546 := by have := HWL.out; have := HL.out; omega
    have q5 : (l.length : Int) ≤ 65536 := by have := HL.out; omega
    obtain ⟨hat1, hat2⟩ := hat
    have hwn : at0 < 0 → IntKind.i64.wrap (-(at0 + 1)) = -(at0 + 1) := fun _ => by simp [IntKind.wrap, IntKind.signed, IntKind.bits]; omega
    have cs := O.facts
    simp only [factsP, cellsP, roomP, foots_cons, foots_nil, foots_append, foot_pt, ptb, ptb_mapA, foot_mapA, factsP_mapA, foot_bun, List.append_nil, List.nil_append, List.cons_append, List.nodup_cons, List.nodup_nil, List.mem_cons, List.not_mem_nil, List.mem_singleton, List.forall_mem_cons, not_or, not_false_eq_true, and_true, true_and, or_false, false_or, forall_eq_or_imp, forall_eq, implies_true, Nat.zero_add, Nat.reduceAdd, and_assoc, ptb_listA, factsP_listA, Nat.mul_one, rdL, byteCells] at cs
    go_upto_if 63 with fail
    go_cut [1] (fun s1 wc => s1 = .int .i64 (if at0 < 0 then -(at0 + 1) else at0) ∧ Mem w [] wc [bytesA Ax cx l, bytesA Ab cb P])
    case first =>
      by_cases hneg : at0 < 0
      · have hwn2 := hwn hneg
        have cs := O.facts
        simp only [factsP, cellsP, roomP, foots_cons, foots_nil, foots_append, foot_pt, ptb, ptb_mapA, foot_mapA, factsP_mapA, foot_bun, List.append_nil, List.nil_append, List.cons_append, List.nodup_cons, List.nodup_nil, List.mem_cons, List.not_mem_nil, List.mem_singleton, List.forall_mem_cons, not_or, not_false_eq_true, and_true, true_and, or_false, false_or, forall_eq_or_imp, forall_eq, implies_true, Nat.zero_add, Nat.reduceAdd, and_assoc, ptb_listA, factsP_listA, Nat.mul_one, rdL, byteCells] at cs
        go_wp2_with fail
        go_meet
        exact ⟨by rw [if_pos hneg], O⟩
      · have cs := O.facts
        simp only [factsP, cellsP, roomP, foots_cons, foots_nil, foots_append, foot_pt, ptb, ptb_mapA, foot_mapA, factsP_mapA, foot_bun, List.append_nil, List.nil_append, List.cons_append, List.nodup_cons, List.nodup_nil, List.mem_cons, List.not_mem_nil, List.mem_singleton, List.forall_mem_cons, not_or, not_false_eq_true, and_true, true_and, or_false, false_or, forall_eq_or_imp, forall_eq, implies_true, Nat.zero_add, Nat.reduceAdd, and_assoc, ptb_listA, factsP_listA, Nat.mul_one, rdL, byteCells] at cs
        go_wp2_with fail
        go_meet
        exact ⟨by rw [if_neg (by omega)], O⟩
    case rest =>
      clear O hwn
      obtain ⟨rfl, O⟩ := hcut
      have hA2 := HA.out
      unfold atP at hA2
      have hb0 : 0 ≤ (if at0 < 0 then -(at0 + 1) else at0) := by split <;> omega
      have hb1 : (if at0 < 0 then -(at0 + 1) else at0) ≤ 9223372036854775807 := by split <;> omega
      generalize (if at0 < 0 then -(at0 + 1) else at0) = bb at *
      have he : bb % (P.length : Int) = (a : Int) := by
        have := Int.emod_nonneg bb (show (P.length : Int) ≠ 0 by omega)
        omega
      clear hA2 HA hat1 hat2
      have cs := O.facts
      simp only [factsP, cellsP, roomP, foots_cons, foots_nil, foots_append, foot_pt, ptb, ptb_mapA, foot_mapA, factsP_mapA, foot_bun, List.append_nil, List.nil_append, List.cons_append, List.nodup_cons, List.nodup_nil, List.mem_cons, List.not_mem_nil, List.mem_singleton, List.forall_mem_cons, not_or, not_false_eq_true, and_true, true_and, or_false, false_or, forall_eq_or_imp, forall_eq, implies_true, Nat.zero_add, Nat.reduceAdd, and_assoc, ptb_listA, factsP_listA, Nat.mul_one, rdL, byteCells] at cs
      go_wp2_with fail
      rw [he]
      clear he hb0 hb1 q1 q2 cs
      go_loopw [13, 14] (fun s13 s14 wr => ∃ (i : Nat) (m : List UInt8) (ch : Bool), i ≤ y.length ∧ i ≤ 4 ∧ s14 = .int .i64 i ∧ s13 = .bool ch ∧ Mem w [] wr [bytesA Ax cx l, bytesA Ab cb m] ∧ Hid (m.length = P.length ∧ (∀ q, q < a ∨ windowEnd a ≤ q → m[q]? = P[q]?) ∧ (∀ q, a + i ≤ q → m[q]? = P[q]?) ∧ (ch = true → m ≠ P) ∧ (ch = false → m = P))) (fun _ s14 _ => 4 - (intOf s14).toNat)
      case atStart => exact ⟨0, P, false, by omega, by omega, rfl, rfl, O, Lib.hid ⟨rfl, fun _ _ => rfl, fun _ _ => rfl, fun h => by simp at h, fun _ => rfl⟩⟩
      case round =>
        clear O
        obtain ⟨i, m, ch, hiy, hi4, rfl, rfl, O, HM⟩ := hrel
        have hml := HM.out.1
        have HML := Lib.hid hml
        clear hml
        by_cases hend : (i < y.length ∧ i < 4 ∧ a + i < P.length) ∧ a + i < windowEnd a
        · obtain ⟨⟨e1, e2, e3⟩, e4⟩ := hend
          obtain ⟨x, hx⟩ : ∃ x, m[a + i]? = some x := ⟨_, List.getElem?_eq_getElem (by rw [HML.out]; exact e3)⟩
          obtain ⟨z, hz⟩ : ∃ z, y[i]? = some z := ⟨_, List.getElem?_eq_getElem e1⟩
          obtain ⟨g, rfl, _⟩ := listA_get (cs := byteCells) (fun _ => rfl) (O.hold (bytesA Ab cb m) (by simp)) hx
          obtain ⟨b2, o2, rfl, hb2⟩ := HY.out.addr (by omega)
          have V2 := Lib.hid (fun W (hW : Fr [] w W) => And.intro (roomP_of (Nat.lt_of_lt_of_le hb2 hW.size)) ((HY.out.fr hW).at_ hz))
          have HX := Lib.hid hx
          have HZ := Lib.hid hz
          clear hx hz
          have f1 : (i : Int) < y.length := by omega
          have f2 : (i : Int) < 4 := by omega
          have f3 : (a : Int) + i < P.length := by omega
          have hwc : (a < 6 ∧ i = 0) ∨ (6 ≤ a ∧ a < 10 ∧ a + i < 10) ∨ 10 ≤ a := by
            unfold windowEnd at e4
            split at e4
            · exact .inl ⟨by omega, by omega⟩
            · split at e4
              · exact .inr (.inl ⟨by omega, by omega, by omega⟩)
              · exact .inr (.inr (by omega))
          have HW := Lib.hid hwc
          have E4 := Lib.hid e4
          clear hwc e4 e1 e2 e3
          skip
          have hL : ∀ W, Mem w [] W (bytesA (some ⟨g, 0, none⟩) cb m :: [bytesA Ax cx l]) → Mem w [] (W.setCell ⟨g, a + i, none⟩ (.int .u8 ((x ^^^ z).toNat : Int))) (bytesA (some ⟨g, 0, none⟩) cb (m.set (a + i) (x ^^^ z)) :: [bytesA Ax cx l]) := fun W h => by
            have := Mem.listSet (size := 1) (a' := x ^^^ z) (j := 0) (v := .int .u8 ((x ^^^ z).toNat : Int)) (cs := byteCells) (fun _ => rfl) h HX.out (by omega) rfl
            rwa [Nat.mul_one, Nat.add_zero] at this
          have HLS := Lib.hid hL
          clear hL
          rcases HW.out with ⟨k1, k2⟩ | ⟨k1, k2, k3⟩ | k1
          · have g1 : (a : Int) + i < 6 := by omega
            have g2 : ¬ (0 < (i : Int)) := by omega
            have g3 : (a : Int) < 6 := by omega
            have g4 : ¬ (6 ≤ (a : Int) + i) := by omega
            have g5 : (a : Int) < 10 := by omega
            have g6 : ¬ (10 ≤ (a : Int) + i) := by omega
            have g7 : ¬ (0 < i) := by omega
            clear k1 k2
            skip
            have cs := O.facts
            simp only [factsP, cellsP, roomP, foots_cons, foots_nil, foots_append, foot_pt, ptb, ptb_mapA, foot_mapA, factsP_mapA, foot_bun, List.append_nil, List.nil_append, List.cons_append, List.nodup_cons, List.nodup_nil, List.mem_cons, List.not_mem_nil, List.mem_singleton, List.forall_mem_cons, not_or, not_false_eq_true, and_true, true_and, or_false, false_or, forall_eq_or_imp, forall_eq, implies_true, Nat.zero_add, Nat.reduceAdd, and_assoc, ptb_listA, factsP_listA, Nat.mul_one, rdL, byteCells] at cs
            have v1 := V2.out _ O.fr
            simp only [roomP, and_assoc] at v1
            have v2 := (listA_at (cs := byteCells) (fun _ => rfl) (O.hold (bytesA (some ⟨g, 0, none⟩) cb m) (by simp)) HX.out)
            try simp only [cellsQ, roomP, and_assoc, and_true, true_and, Nat.add_zero, Nat.zero_add, Nat.reduceAdd, factsP, cellsP, roomP, foots_cons, foots_nil, foots_append, foot_pt, ptb, ptb_mapA, foot_mapA, factsP_mapA, foot_bun, List.append_nil, List.nil_append, List.cons_append, List.nodup_cons, List.nodup_nil, List.mem_cons, List.not_mem_nil, List.mem_singleton, List.forall_mem_cons, not_or, not_false_eq_true, and_true, true_and, or_false, false_or, forall_eq_or_imp, forall_eq, implies_true, Nat.zero_add, Nat.reduceAdd, and_assoc, ptb_listA, factsP_listA, Nat.mul_one, rdL, byteCells] at v2
            go_upto_region 17 with fail
            have hw1 : IntKind.i64.wrap ((a : Int) + i) = (a : Int) + i := by simp [IntKind.wrap, IntKind.signed, IntKind.bits]; omega
            have hw2 : ((a : Int) + i).toNat = a + i := by omega
            have hw3 : 0 ≤ (a : Int) + i := by omega
            apply region_last_mem (by kernel_rfl) (by kernel_rfl)
            case O => repeat' (first | (with_reducible exact O) | (with_reducible apply Mem.drew) | (with_reducible apply Mem.drewN) | (with_reducible apply Mem.ext) | (with_reducible apply Mem.alloc) | (with_reducible apply Mem.setCell) | (simp only [ptb, ptb_upd, foots_cons, List.mem_cons, World.size_alloc, size_ext, World.size_setCell, true_or, or_true, eq_self_iff_true]))
            case' h =>
              intro w5 O'
              (try clear O)
              have O := O'
              clear O'
              (first | simp only [sel, rst, List.cons_append, List.nil_append, World.size_alloc, size_ext, World.size_setCell, size_setMap, World.size_drew, size_drewN, upd, List.set_cons_zero, List.set_cons_succ, if_true, if_false, reduceIte, not_false_eq_true, ne_lt0, ne_lt1, ne_lt2, ne_lt3, ne_lt4, cs] at O | simp only [sel, rst, List.cons_append, List.nil_append, World.size_alloc, size_ext, World.size_setCell, size_setMap, World.size_drew, size_drewN, upd, List.set_cons_zero, List.set_cons_succ, if_true, if_false, reduceIte, not_false_eq_true, ne_lt0, ne_lt1, ne_lt2, ne_lt3, ne_lt4] at O | skip)
              (try clear cs)
              (try clear v1)
              (try clear v2)
              (try clear v3)
            simp only [List.length_cons, List.length_nil, Nat.reduceAdd, Nat.reduceSub, List.take_succ_cons, List.take_zero, List.drop_succ_cons, List.drop_zero]
            have cs := O.facts
            simp only [factsP, cellsP, roomP, foots_cons, foots_nil, foots_append, foot_pt, ptb, ptb_mapA, foot_mapA, factsP_mapA, foot_bun, List.append_nil, List.nil_append, List.cons_append, List.nodup_cons, List.nodup_nil, List.mem_cons, List.not_mem_nil, List.mem_singleton, List.forall_mem_cons, not_or, not_false_eq_true, and_true, true_and, or_false, false_or, forall_eq_or_imp, forall_eq, implies_true, Nat.zero_add, Nat.reduceAdd, and_assoc, ptb_listA, factsP_listA, Nat.mul_one, rdL, byteCells] at cs
            have v1 := V2.out _ O.fr
            simp only [roomP, and_assoc] at v1
            have v2 := (listA_at (cs := byteCells) (fun _ => rfl) (O.hold (bytesA (some ⟨g, 0, none⟩) cb m) (by simp)) HX.out)
            try simp only [cellsQ, roomP, and_assoc, and_true, true_and, Nat.add_zero, Nat.zero_add, Nat.reduceAdd, factsP, cellsP, roomP, foots_cons, foots_nil, foots_append, foot_pt, ptb, ptb_mapA, foot_mapA, factsP_mapA, foot_bun, List.append_nil, List.nil_append, List.cons_append, List.nodup_cons, List.nodup_nil, List.mem_cons, List.not_mem_nil, List.mem_singleton, List.forall_mem_cons, not_or, not_false_eq_true, and_true, true_and, or_false, false_or, forall_eq_or_imp, forall_eq, implies_true, Nat.zero_add, Nat.reduceAdd, and_assoc, ptb_listA, factsP_listA, Nat.mul_one, rdL, byteCells] at v2
            repeat still_step
            refine wpStill_nil ?_
            go_upto_region 18 with fail
            (try clear cs)
            (try clear v1)
            (try clear v2)
            (try clear v3)
            clear hw1 hw2 hw3
            rw [bits_xor8]
            have O2 := HLS.out w5 O.swap
            generalize w5.setCell ⟨g, a + i, none⟩ (.int .u8 ((x ^^^ z).toNat : Int)) = w6 at O2 ⊢
            clear O HLS HW
            have O := O2.swap
            clear O2
            skip
            have hch : Hid (∀ ch' : Bool, (ch' = (ch || decide (z ≠ 0))) → ∃ (i' : Nat) (m' : List UInt8) (ch'' : Bool), i' ≤ y.length ∧ i' ≤ 4 ∧ Value.int .i64 ((i : Int) + 1) = .int .i64 i' ∧ Value.bool ch' = .bool ch'' ∧ Mem w [] w6 [bytesA Ax cx l, bytesA (some ⟨g, 0, none⟩) cb m'] ∧ Hid (m'.length = P.length ∧ (∀ q, q < a ∨ windowEnd a ≤ q → m'[q]? = P[q]?) ∧ (∀ q, a + i' ≤ q → m'[q]? = P[q]?) ∧ (ch'' = true → m' ≠ P) ∧ (ch'' = false → m' = P))) := Lib.hid (by
              intro ch' hch'
              refine ⟨i + 1, m.set (a + i) (x ^^^ z), ch', by omega, by omega, by go_num, rfl, O, Lib.hid ?_⟩
              have hset := set_spoil HM.out HX.out E4.out z
              rw [hch']
              exact hset)
            cases ch <;> by_cases hz0 : z = 0
            · subst hz0
              have cs := O.facts
              simp only [factsP, cellsP, roomP, foots_cons, foots_nil, foots_append, foot_pt, ptb, ptb_mapA, foot_mapA, factsP_mapA, foot_bun, List.append_nil, List.nil_append, List.cons_append, List.nodup_cons, List.nodup_nil, List.mem_cons, List.not_mem_nil, List.mem_singleton, List.forall_mem_cons, not_or, not_false_eq_true, and_true, true_and, or_false, false_or, forall_eq_or_imp, forall_eq, implies_true, Nat.zero_add, Nat.reduceAdd, and_assoc, ptb_listA, factsP_listA, Nat.mul_one, rdL, byteCells] at cs
              have v1 := V2.out _ O.fr
              simp only [roomP, and_assoc] at v1
              go_wp2_with fail
              go_roundw
              case rel => exact hch.out false (by simp)
              case measure => simp [intOf]; omega
            · have hz1 : ¬ ((z.toNat : Int) = 0) := byte_ne hz0
              have hz2 : ((z.toNat : Int) == 0) = false := by simpa using hz1
              have hz3 : ((z.toNat : Int) != 0) = true := by simpa using hz1
              have hz4 : ¬ (z.toNat = 0) := by omega
              skip
              have cs := O.facts
              simp only [factsP, cellsP, roomP, foots_cons, foots_nil, foots_append, foot_pt, ptb, ptb_mapA, foot_mapA, factsP_mapA, foot_bun, List.append_nil, List.nil_append, List.cons_append, List.nodup_cons, List.nodup_nil, List.mem_cons, List.not_mem_nil, List.mem_singleton, List.forall_mem_cons, not_or, not_false_eq_true, and_true, true_and, or_false, false_or, forall_eq_or_imp, forall_eq, implies_true, Nat.zero_add, Nat.reduceAdd, and_assoc, ptb_listA, factsP_listA, Nat.mul_one, rdL, byteCells] at cs
              have v1 := V2.out _ O.fr
              simp only [roomP, and_assoc] at v1
              go_wp2_with fail
              go_roundw
              case rel => first | exact hch.out true (by simp [hz0]) | (simp only [hz1, hz2, hz3, hz4, Bool.not_false, decide_false, decide_true]; exact hch.out true (by simp [hz0]))
              case measure => simp [intOf]; omega
            · skip
              have cs := O.facts
              simp only [factsP, cellsP, roomP, foots_cons, foots_nil, foots_append, foot_pt, ptb, ptb_mapA, foot_mapA, factsP_mapA, foot_bun, List.append_nil, List.nil_append, List.cons_append, List.nodup_cons, List.nodup_nil, List.mem_cons, List.not_mem_nil, List.mem_singleton, List.forall_mem_cons, not_or, not_false_eq_true, and_true, true_and, or_false, false_or, forall_eq_or_imp, forall_eq, implies_true, Nat.zero_add, Nat.reduceAdd, and_assoc, ptb_listA, factsP_listA, Nat.mul_one, rdL, byteCells] at cs
              go_wp2_with fail
              go_roundw
              case rel => exact hch.out true (by simp)
              case measure => simp [intOf]; omega
            · skip
              have cs := O.facts
              simp only [factsP, cellsP, roomP, foots_cons, foots_nil, foots_append, foot_pt, ptb, ptb_mapA, foot_mapA, factsP_mapA, foot_bun, List.append_nil, List.nil_append, List.cons_append, List.nodup_cons, List.nodup_nil, List.mem_cons, List.not_mem_nil, List.mem_singleton, List.forall_mem_cons, not_or, not_false_eq_true, and_true, true_and, or_false, false_or, forall_eq_or_imp, forall_eq, implies_true, Nat.zero_add, Nat.reduceAdd, and_assoc, ptb_listA, factsP_listA, Nat.mul_one, rdL, byteCells] at cs
              go_wp2_with fail
              go_roundw
              case rel => exact hch.out true (by simp)
              case measure => simp [intOf]; omega
          · have g1 : ¬ ((a : Int) + i < 6) := by omega
            have g3 : ¬ ((a : Int) < 6) := by omega
            have g5 : (a : Int) < 10 := by omega
            have g6 : ¬ (10 ≤ (a : Int) + i) := by omega
            clear k1 k2
            skip
            have cs := O.facts
            simp only [factsP, cellsP, roomP, foots_cons, foots_nil, foots_append, foot_pt, ptb, ptb_mapA, foot_mapA, factsP_mapA, foot_bun, List.append_nil, List.nil_append, List.cons_append, List.nodup_cons, List.nodup_nil, List.mem_cons, List.not_mem_nil, List.mem_singleton, List.forall_mem_cons, not_or, not_false_eq_true, and_true, true_and, or_false, false_or, forall_eq_or_imp, forall_eq, implies_true, Nat.zero_add, Nat.reduceAdd, and_assoc, ptb_listA, factsP_listA, Nat.mul_one, rdL, byteCells] at cs
            have v1 := V2.out _ O.fr
            simp only [roomP, and_assoc] at v1
            have v2 := (listA_at (cs := byteCells) (fun _ => rfl) (O.hold (bytesA (some ⟨g, 0, none⟩) cb m) (by simp)) HX.out)
            try simp only [cellsQ, roomP, and_assoc, and_true, true_and, Nat.add_zero, Nat.zero_add, Nat.reduceAdd, factsP, cellsP, roomP, foots_cons, foots_nil, foots_append, foot_pt, ptb, ptb_mapA, foot_mapA, factsP_mapA, foot_bun, List.append_nil, List.nil_append, List.cons_append, List.nodup_cons, List.nodup_nil, List.mem_cons, List.not_mem_nil, List.mem_singleton, List.forall_mem_cons, not_or, not_false_eq_true, and_true, true_and, or_false, false_or, forall_eq_or_imp, forall_eq, implies_true, Nat.zero_add, Nat.reduceAdd, and_assoc, ptb_listA, factsP_listA, Nat.mul_one, rdL, byteCells] at v2
            go_upto_region 17 with fail
            have hw1 : IntKind.i64.wrap ((a : Int) + i) = (a : Int) + i := by simp [IntKind.wrap, IntKind.signed, IntKind.bits]; omega
            have hw2 : ((a : Int) + i).toNat = a + i := by omega
            have hw3 : 0 ≤ (a : Int) + i := by omega
            apply region_last_mem (by kernel_rfl) (by kernel_rfl)
            case O => repeat' (first | (with_reducible exact O) | (with_reducible apply Mem.drew) | (with_reducible apply Mem.drewN) | (with_reducible apply Mem.ext) | (with_reducible apply Mem.alloc) | (with_reducible apply Mem.setCell) | (simp only [ptb, ptb_upd, foots_cons, List.mem_cons, World.size_alloc, size_ext, World.size_setCell, true_or, or_true, eq_self_iff_true]))
            case' h =>
              intro w5 O'
              (try clear O)
              have O := O'
              clear O'
              (first | simp only [sel, rst, List.cons_append, List.nil_append, World.size_alloc, size_ext, World.size_setCell, size_setMap, World.size_drew, size_drewN, upd, List.set_cons_zero, List.set_cons_succ, if_true, if_false, reduceIte, not_false_eq_true, ne_lt0, ne_lt1, ne_lt2, ne_lt3, ne_lt4, cs] at O | simp only [sel, rst, List.cons_append, List.nil_append, World.size_alloc, size_ext, World.size_setCell, size_setMap, World.size_drew, size_drewN, upd, List.set_cons_zero, List.set_cons_succ, if_true, if_false, reduceIte, not_false_eq_true, ne_lt0, ne_lt1, ne_lt2, ne_lt3, ne_lt4] at O | skip)
              (try clear cs)
              (try clear v1)
              (try clear v2)
              (try clear v3)
            simp only [List.length_cons, List.length_nil, Nat.reduceAdd, Nat.reduceSub, List.take_succ_cons, List.take_zero, List.drop_succ_cons, List.drop_zero]
            have cs := O.facts
            simp only [factsP, cellsP, roomP, foots_cons, foots_nil, foots_append, foot_pt, ptb, ptb_mapA, foot_mapA, factsP_mapA, foot_bun, List.append_nil, List.nil_append, List.cons_append, List.nodup_cons, List.nodup_nil, List.mem_cons, List.not_mem_nil, List.mem_singleton, List.forall_mem_cons, not_or, not_false_eq_true, and_true, true_and, or_false, false_or, forall_eq_or_imp, forall_eq, implies_true, Nat.zero_add, Nat.reduceAdd, and_assoc, ptb_listA, factsP_listA, Nat.mul_one, rdL, byteCells] at cs
            have v1 := V2.out _ O.fr
            simp only [roomP, and_assoc] at v1
            have v2 := (listA_at (cs := byteCells) (fun _ => rfl) (O.hold (bytesA (some ⟨g, 0, none⟩) cb m) (by simp)) HX.out)
            try simp only [cellsQ, roomP, and_assoc, and_true, true_and, Nat.add_zero, Nat.zero_add, Nat.reduceAdd, factsP, cellsP, roomP, foots_cons, foots_nil, foots_append, foot_pt, ptb, ptb_mapA, foot_mapA, factsP_mapA, foot_bun, List.append_nil, List.nil_append, List.cons_append, List.nodup_cons, List.nodup_nil, List.mem_cons, List.not_mem_nil, List.mem_singleton, List.forall_mem_cons, not_or, not_false_eq_true, and_true, true_and, or_false, false_or, forall_eq_or_imp, forall_eq, implies_true, Nat.zero_add, Nat.reduceAdd, and_assoc, ptb_listA, factsP_listA, Nat.mul_one, rdL, byteCells] at v2
            repeat still_step
            refine wpStill_nil ?_
            go_upto_region 18 with fail
            (try clear cs)
            (try clear v1)
            (try clear v2)
            (try clear v3)
            clear hw1 hw2 hw3
            rw [bits_xor8]
            have O2 := HLS.out w5 O.swap
            generalize w5.setCell ⟨g, a + i, none⟩ (.int .u8 ((x ^^^ z).toNat : Int)) = w6 at O2 ⊢
            clear O HLS HW
            have O := O2.swap
            clear O2
            skip
            have hch : Hid (∀ ch' : Bool, (ch' = (ch || decide (z ≠ 0))) → ∃ (i' : Nat) (m' : List UInt8) (ch'' : Bool), i' ≤ y.length ∧ i' ≤ 4 ∧ Value.int .i64 ((i : Int) + 1) = .int .i64 i' ∧ Value.bool ch' = .bool ch'' ∧ Mem w [] w6 [bytesA Ax cx l, bytesA (some ⟨g, 0, none⟩) cb m'] ∧ Hid (m'.length = P.length ∧ (∀ q, q < a ∨ windowEnd a ≤ q → m'[q]? = P[q]?) ∧ (∀ q, a + i' ≤ q → m'[q]? = P[q]?) ∧ (ch'' = true → m' ≠ P) ∧ (ch'' = false → m' = P))) := Lib.hid (by
              intro ch' hch'
              refine ⟨i + 1, m.set (a + i) (x ^^^ z), ch', by omega, by omega, by go_num, rfl, O, Lib.hid ?_⟩
              have hset := set_spoil HM.out HX.out E4.out z
              rw [hch']
              exact hset)
            cases ch <;> by_cases hz0 : z = 0
            · subst hz0
              have cs := O.facts
              simp only [factsP, cellsP, roomP, foots_cons, foots_nil, foots_append, foot_pt, ptb, ptb_mapA, foot_mapA, factsP_mapA, foot_bun, List.append_nil, List.nil_append, List.cons_append, List.nodup_cons, List.nodup_nil, List.mem_cons, List.not_mem_nil, List.mem_singleton, List.forall_mem_cons, not_or, not_false_eq_true, and_true, true_and, or_false, false_or, forall_eq_or_imp, forall_eq, implies_true, Nat.zero_add, Nat.reduceAdd, and_assoc, ptb_listA, factsP_listA, Nat.mul_one, rdL, byteCells] at cs
              have v1 := V2.out _ O.fr
              simp only [roomP, and_assoc] at v1
              go_wp2_with fail
              go_roundw
              case rel => exact hch.out false (by simp)
              case measure => simp [intOf]; omega
            · have hz1 : ¬ ((z.toNat : Int) = 0) := byte_ne hz0
              have hz2 : ((z.toNat : Int) == 0) = false := by simpa using hz1
              have hz3 : ((z.toNat : Int) != 0) = true := by simpa using hz1
              have hz4 : ¬ (z.toNat = 0) := by omega
              skip
              have cs := O.facts
              simp only [factsP, cellsP, roomP, foots_cons, foots_nil, foots_append, foot_pt, ptb, ptb_mapA, foot_mapA, factsP_mapA, foot_bun, List.append_nil, List.nil_append, List.cons_append, List.nodup_cons, List.nodup_nil, List.mem_cons, List.not_mem_nil, List.mem_singleton, List.forall_mem_cons, not_or, not_false_eq_true, and_true, true_and, or_false, false_or, forall_eq_or_imp, forall_eq, implies_true, Nat.zero_add, Nat.reduceAdd, and_assoc, ptb_listA, factsP_listA, Nat.mul_one, rdL, byteCells] at cs
              have v1 := V2.out _ O.fr
              simp only [roomP, and_assoc] at v1
              go_wp2_with fail
              go_roundw
              case rel => first | exact hch.out true (by simp [hz0]) | (simp only [hz1, hz2, hz3, hz4, Bool.not_false, decide_false, decide_true]; exact hch.out true (by simp [hz0]))
              case measure => simp [intOf]; omega
            · skip
              have cs := O.facts
              simp only [factsP, cellsP, roomP, foots_cons, foots_nil, foots_append, foot_pt, ptb, ptb_mapA, foot_mapA, factsP_mapA, foot_bun, List.append_nil, List.nil_append, List.cons_append, List.nodup_cons, List.nodup_nil, List.mem_cons, List.not_mem_nil, List.mem_singleton, List.forall_mem_cons, not_or, not_false_eq_true, and_true, true_and, or_false, false_or, forall_eq_or_imp, forall_eq, implies_true, Nat.zero_add, Nat.reduceAdd, and_assoc, ptb_listA, factsP_listA, Nat.mul_one, rdL, byteCells] at cs
              go_wp2_with fail
              go_roundw
              case rel => exact hch.out true (by simp)
              case measure => simp [intOf]; omega
            · skip
              have cs := O.facts
              simp only [factsP, cellsP, roomP, foots_cons, foots_nil, foots_append, foot_pt, ptb, ptb_mapA, foot_mapA, factsP_mapA, foot_bun, List.append_nil, List.nil_append, List.cons_append, List.nodup_cons, List.nodup_nil, List.mem_cons, List.not_mem_nil, List.mem_singleton, List.forall_mem_cons, not_or, not_false_eq_true, and_true, true_and, or_false, false_or, forall_eq_or_imp, forall_eq, implies_true, Nat.zero_add, Nat.reduceAdd, and_assoc, ptb_listA, factsP_listA, Nat.mul_one, rdL, byteCells] at cs
              go_wp2_with fail
              go_roundw
              case rel => exact hch.out true (by simp)
              case measure => simp [intOf]; omega
          · have g1 : ¬ ((a : Int) + i < 6) := by omega
            have g3 : ¬ ((a : Int) < 6) := by omega
            have g5 : ¬ ((a : Int) < 10) := by omega
            clear k1
            skip
            have cs := O.facts
            simp only [factsP, cellsP, roomP, foots_cons, foots_nil, foots_append, foot_pt, ptb, ptb_mapA, foot_mapA, factsP_mapA, foot_bun, List.append_nil, List.nil_append, List.cons_append, List.nodup_cons, List.nodup_nil, List.mem_cons, List.not_mem_nil, List.mem_singleton, List.forall_mem_cons, not_or, not_false_eq_true, and_true, true_and, or_false, false_or, forall_eq_or_imp, forall_eq, implies_true, Nat.zero_add, Nat.reduceAdd, and_assoc, ptb_listA, factsP_listA, Nat.mul_one, rdL, byteCells] at cs
            have v1 := V2.out _ O.fr
            simp only [roomP, and_assoc] at v1
            have v2 := (listA_at (cs := byteCells) (fun _ => rfl) (O.hold (bytesA (some ⟨g, 0, none⟩) cb m) (by simp)) HX.out)
            try simp only [cellsQ, roomP, and_assoc, and_true, true_and, Nat.add_zero, Nat.zero_add, Nat.reduceAdd, factsP, cellsP, roomP, foots_cons, foots_nil, foots_append, foot_pt, ptb, ptb_mapA, foot_mapA, factsP_mapA, foot_bun, List.append_nil, List.nil_append, List.cons_append, List.nodup_cons, List.nodup_nil, List.mem_cons, List.not_mem_nil, List.mem_singleton, List.forall_mem_cons, not_or, not_false_eq_true, and_true, true_and, or_false, false_or, forall_eq_or_imp, forall_eq, implies_true, Nat.zero_add, Nat.reduceAdd, and_assoc, ptb_listA, factsP_listA, Nat.mul_one, rdL, byteCells] at v2
            go_upto_region 17 with fail
            have hw1 : IntKind.i64.wrap ((a : Int) + i) = (a : Int) + i := by simp [IntKind.wrap, IntKind.signed, IntKind.bits]; omega
            have hw2 : ((a : Int) + i).toNat = a + i := by omega
            have hw3 : 0 ≤ (a : Int) + i := by omega
            apply region_last_mem (by kernel_rfl) (by kernel_rfl)
            case O => repeat' (first | (with_reducible exact O) | (with_reducible apply Mem.drew) | (with_reducible apply Mem.drewN) | (with_reducible apply Mem.ext) | (with_reducible apply Mem.alloc) | (with_reducible apply Mem.setCell) | (simp only [ptb, ptb_upd, foots_cons, List.mem_cons, World.size_alloc, size_ext, World.size_setCell, true_or, or_true, eq_self_iff_true]))
            case' h =>
              intro w5 O'
              (try clear O)
              have O := O'
              clear O'
              (first | simp only [sel, rst, List.cons_append, List.nil_append, World.size_alloc, size_ext, World.size_setCell, size_setMap, World.size_drew, size_drewN, upd, List.set_cons_zero, List.set_cons_succ, if_true, if_false, reduceIte, not_false_eq_true, ne_lt0, ne_lt1, ne_lt2, ne_lt3, ne_lt4, cs] at O | simp only [sel, rst, List.cons_append, List.nil_append, World.size_alloc, size_ext, World.size_setCell, size_setMap, World.size_drew, size_drewN, upd, List.set_cons_zero, List.set_cons_succ, if_true, if_false, reduceIte, not_false_eq_true, ne_lt0, ne_lt1, ne_lt2, ne_lt3, ne_lt4] at O | skip)
              (try clear cs)
              (try clear v1)
              (try clear v2)
              (try clear v3)
            simp only [List.length_cons, List.length_nil, Nat.reduceAdd, Nat.reduceSub, List.take_succ_cons, List.take_zero, List.drop_succ_cons, List.drop_zero]
            have cs := O.facts
            simp only [factsP, cellsP, roomP, foots_cons, foots_nil, foots_append, foot_pt, ptb, ptb_mapA, foot_mapA, factsP_mapA, foot_bun, List.append_nil, List.nil_append, List.cons_append, List.nodup_cons, List.nodup_nil, List.mem_cons, List.not_mem_nil, List.mem_singleton, List.forall_mem_cons, not_or, not_false_eq_true, and_true, true_and, or_false, false_or, forall_eq_or_imp, forall_eq, implies_true, Nat.zero_add, Nat.reduceAdd, and_assoc, ptb_listA, factsP_listA, Nat.mul_one, rdL, byteCells] at cs
            have v1 := V2.out _ O.fr
            simp only [roomP, and_assoc] at v1
            have v2 := (listA_at (cs := byteCells) (fun _ => rfl) (O.hold (bytesA (some ⟨g, 0, none⟩) cb m) (by simp)) HX.out)
            try simp only [cellsQ, roomP, and_assoc, and_true, true_and, Nat.add_zero, Nat.zero_add, Nat.reduceAdd, factsP, cellsP, roomP, foots_cons, foots_nil, foots_append, foot_pt, ptb, ptb_mapA, foot_mapA, factsP_mapA, foot_bun, List.append_nil, List.nil_append, List.cons_append, List.nodup_cons, List.nodup_nil, List.mem_cons, List.not_mem_nil, List.mem_singleton, List.forall_mem_cons, not_or, not_false_eq_true, and_true, true_and, or_false, false_or, forall_eq_or_imp, forall_eq, implies_true, Nat.zero_add, Nat.reduceAdd, and_assoc, ptb_listA, factsP_listA, Nat.mul_one, rdL, byteCells] at v2
            repeat still_step
            refine wpStill_nil ?_
            go_upto_region 18 with fail
            (try clear cs)
            (try clear v1)
            (try clear v2)
            (try clear v3)
            clear hw1 hw2 hw3
            rw [bits_xor8]
            have O2 := HLS.out w5 O.swap
            generalize w5.setCell ⟨g, a + i, none⟩ (.int .u8 ((x ^^^ z).toNat : Int)) = w6 at O2 ⊢
            clear O HLS HW
            have O := O2.swap
            clear O2
            skip
            have hch : Hid (∀ ch' : Bool, (ch' = (ch || decide (z ≠ 0))) → ∃ (i' : Nat) (m' : List UInt8) (ch'' : Bool), i' ≤ y.length ∧ i' ≤ 4 ∧ Value.int .i64 ((i : Int) + 1) = .int .i64 i' ∧ Value.bool ch' = .bool ch'' ∧ Mem w [] w6 [bytesA Ax cx l, bytesA (some ⟨g, 0, none⟩) cb m'] ∧ Hid (m'.length = P.length ∧ (∀ q, q < a ∨ windowEnd a ≤ q → m'[q]? = P[q]?) ∧ (∀ q, a + i' ≤ q → m'[q]? = P[q]?) ∧ (ch'' = true → m' ≠ P) ∧ (ch'' = false → m' = P))) := Lib.hid (by
              intro ch' hch'
              refine ⟨i + 1, m.set (a + i) (x ^^^ z), ch', by omega, by omega, by go_num, rfl, O, Lib.hid ?_⟩
              have hset := set_spoil HM.out HX.out E4.out z
              rw [hch']
              exact hset)
            cases ch <;> by_cases hz0 : z = 0
            · subst hz0
              have cs := O.facts
              simp only [factsP, cellsP, roomP, foots_cons, foots_nil, foots_append, foot_pt, ptb, ptb_mapA, foot_mapA, factsP_mapA, foot_bun, List.append_nil, List.nil_append, List.cons_append, List.nodup_cons, List.nodup_nil, List.mem_cons, List.not_mem_nil, List.mem_singleton, List.forall_mem_cons, not_or, not_false_eq_true, and_true, true_and, or_false, false_or, forall_eq_or_imp, forall_eq, implies_true, Nat.zero_add, Nat.reduceAdd, and_assoc, ptb_listA, factsP_listA, Nat.mul_one, rdL, byteCells] at cs
              have v1 := V2.out _ O.fr
              simp only [roomP, and_assoc] at v1
              go_wp2_with fail
              go_roundw
              case rel => exact hch.out false (by simp)
              case measure => simp [intOf]; omega
            · have hz1 : ¬ ((z.toNat : Int) = 0) := byte_ne hz0
              have hz2 : ((z.toNat : Int) == 0) = false := by simpa using hz1
              have hz3 : ((z.toNat : Int) != 0) = true := by simpa using hz1
              have hz4 : ¬ (z.toNat = 0) := by omega
              skip
              have cs := O.facts
              simp only [factsP, cellsP, roomP, foots_cons, foots_nil, foots_append, foot_pt, ptb, ptb_mapA, foot_mapA, factsP_mapA, foot_bun, List.append_nil, List.nil_append, List.cons_append, List.nodup_cons, List.nodup_nil, List.mem_cons, List.not_mem_nil, List.mem_singleton, List.forall_mem_cons, not_or, not_false_eq_true, and_true, true_and, or_false, false_or, forall_eq_or_imp, forall_eq, implies_true, Nat.zero_add, Nat.reduceAdd, and_assoc, ptb_listA, factsP_listA, Nat.mul_one, rdL, byteCells] at cs
              have v1 := V2.out _ O.fr
              simp only [roomP, and_assoc] at v1
              go_wp2_with fail
              go_roundw
              case rel => first | exact hch.out true (by simp [hz0]) | (simp only [hz1, hz2, hz3, hz4, Bool.not_false, decide_false, decide_true]; exact hch.out true (by simp [hz0]))
              case measure => simp [intOf]; omega
            · skip
              have cs := O.facts
              simp only [factsP, cellsP, roomP, foots_cons, foots_nil, foots_append, foot_pt, ptb, ptb_mapA, foot_mapA, factsP_mapA, foot_bun, List.append_nil, List.nil_append, List.cons_append, List.nodup_cons, List.nodup_nil, List.mem_cons, List.not_mem_nil, List.mem_singleton, List.forall_mem_cons, not_or, not_false_eq_true, and_true, true_and, or_false, false_or, forall_eq_or_imp, forall_eq, implies_true, Nat.zero_add, Nat.reduceAdd, and_assoc, ptb_listA, factsP_listA, Nat.mul_one, rdL, byteCells] at cs
              go_wp2_with fail
              go_roundw
              case rel => exact hch.out true (by simp)
              case measure => simp [intOf]; omega
            · skip
              have cs := O.facts
              simp only [factsP, cellsP, roomP, foots_cons, foots_nil, foots_append, foot_pt, ptb, ptb_mapA, foot_mapA, factsP_mapA, foot_bun, List.append_nil, List.nil_append, List.cons_append, List.nodup_cons, List.nodup_nil, List.mem_cons, List.not_mem_nil, List.mem_singleton, List.forall_mem_cons, not_or, not_false_eq_true, and_true, true_and, or_false, false_or, forall_eq_or_imp, forall_eq, implies_true, Nat.zero_add, Nat.reduceAdd, and_assoc, ptb_listA, factsP_listA, Nat.mul_one, rdL, byteCells] at cs
              go_wp2_with fail
              go_roundw
              case rel => exact hch.out true (by simp)
              case measure => simp [intOf]; omega
        · have hfin : Hid ((unwrapP m).2 ≠ 0 ↔ ch = true) := Lib.hid (by
            obtain ⟨h1, h2, _, h4, h5⟩ := HM.out
            rw [HP.out] at h1 h2 h4 h5
            cases ch with
            | true => exact ⟨fun _ => rfl, fun _ => unwrap_spoilt l m HL.out h1 a h2 (h4 rfl)⟩
            | false =>
              rw [h5 rfl, ← HP.out, HUW.out]
              simp)
          have hrun := fun W hR => fr_Unwrap W Ab cb m hR (by rw [HML.out]; exact HCAP.out) (by rw [HML.out]; omega)
          have hf2 := hfin.out
          generalize unwrapP m = um at hrun hf2
          obtain ⟨ub, ue⟩ := um
          simp only at hrun hf2
          rw [HML.out] at hrun
          have HU := Lib.hid hrun
          clear hrun hfin
          have hue : (ch = true ∧ ¬ (ue = 0)) ∨ (ch = false ∧ ue = 0) := by
            cases ch with
            | true => exact .inl ⟨rfl, by simpa using hf2⟩
            | false => exact .inr ⟨rfl, by simpa using hf2⟩
          have hcase : (¬ (i : Int) < y.length) ∨ ((i : Int) < y.length ∧ ¬ (i : Int) < 4) ∨ ((i : Int) < y.length ∧ (i : Int) < 4 ∧ ¬ (a : Int) + i < P.length) ∨
              ((i : Int) < y.length ∧ (i : Int) < 4 ∧ (a : Int) + i < P.length ∧ (a : Int) + i < 6 ∧ 0 < (i : Int)) ∨
              ((i : Int) < y.length ∧ (i : Int) < 4 ∧ (a : Int) + i < P.length ∧ ¬ (a : Int) + i < 6 ∧ (a : Int) < 6 ∧ 6 ≤ (a : Int) + i) ∨
              ((i : Int) < y.length ∧ (i : Int) < 4 ∧ (a : Int) + i < P.length ∧ ¬ (a : Int) + i < 6 ∧ ¬ (a : Int) < 6 ∧ (a : Int) < 10 ∧ 10 ≤ (a : Int) + i) := by
            by_cases e1 : i < y.length
            · by_cases e2 : i < 4
              · by_cases e3 : a + i < P.length
                · have e4 : windowEnd a ≤ a + i := by
                    apply Nat.le_of_not_lt
                    intro h
                    exact hend ⟨⟨e1, e2, e3⟩, h⟩
                  unfold windowEnd at e4
                  split at e4
                  · by_cases e5 : a + i < 6
                    · exact .inr (.inr (.inr (.inl ⟨by omega, by omega, by omega, by omega, by omega⟩)))
                    · exact .inr (.inr (.inr (.inr (.inl ⟨by omega, by omega, by omega, by omega, by omega, by omega⟩))))
                  · split at e4
                    · exact .inr (.inr (.inr (.inr (.inr ⟨by omega, by omega, by omega, by omega, by omega, by omega, by omega⟩))))
                    · omega
                · exact .inr (.inr (.inl ⟨by omega, by omega, by omega⟩))
              · exact .inr (.inl ⟨by omega, by omega⟩)
            · exact .inl (by omega)
          have HCS := Lib.hid hcase
          clear hcase hf2 hend
          skip
          rcases hue with ⟨rfl, hue⟩ | ⟨rfl, rfl⟩
          · have hu2 : (ue == 0) = false := by simpa using hue
            have hu3 : (ue != 0) = true := by simpa using hue
            rcases HCS.out with h | ⟨h, h'⟩ | ⟨h, h', h''⟩ | ⟨h, h', h'', h3, h4⟩ | ⟨h, h', h'', h3, h4, h5⟩ | ⟨h, h', h'', h3, h4, h5, h6⟩
            all_goals
              clear HCS
              have cs := O.facts
              simp only [factsP, cellsP, roomP, foots_cons, foots_nil, foots_append, foot_pt, ptb, ptb_mapA, foot_mapA, factsP_mapA, foot_bun, List.append_nil, List.nil_append, List.cons_append, List.nodup_cons, List.nodup_nil, List.mem_cons, List.not_mem_nil, List.mem_singleton, List.forall_mem_cons, not_or, not_false_eq_true, and_true, true_and, or_false, false_or, forall_eq_or_imp, forall_eq, implies_true, Nat.zero_add, Nat.reduceAdd, and_assoc, ptb_listA, factsP_listA, Nat.mul_one, rdL, byteCells] at cs
              go_wp2_with fail
              first | apply Mem.atCall | apply Mem.atCode | apply Mem.atList
              case h => repeat' (first | (with_reducible exact O) | (with_reducible apply Mem.drew) | (with_reducible apply Mem.drewN) | (with_reducible apply Mem.ext) | (with_reducible apply Mem.alloc) | (with_reducible apply Mem.setCell) | (simp only [ptb, ptb_upd, foots_cons, List.mem_cons, World.size_alloc, size_ext, World.size_setCell, true_or, or_true, eq_self_iff_true]))
              case' k =>
                intro z1 O'
                (try clear O)
                have O := O'
                clear O'
                (first | simp only [sel, rst, List.cons_append, List.nil_append, World.size_alloc, size_ext, World.size_setCell, size_setMap, World.size_drew, size_drewN, upd, List.set_cons_zero, List.set_cons_succ, if_true, if_false, reduceIte, not_false_eq_true, ne_lt0, ne_lt1, ne_lt2, ne_lt3, ne_lt4, cs] at O | simp only [sel, rst, List.cons_append, List.nil_append, World.size_alloc, size_ext, World.size_setCell, size_setMap, World.size_drew, size_drewN, upd, List.set_cons_zero, List.set_cons_succ, if_true, if_false, reduceIte, not_false_eq_true, ne_lt0, ne_lt1, ne_lt2, ne_lt3, ne_lt4] at O | skip)
                (try clear cs)
                (try clear v1)
                (try clear v2)
                (try clear v3)
              refine (HU.out _ (Mem.rd (c := cb) O (by simp))).mono ?_
              rintro e z2 ⟨Au, cu, rfl, o⟩
              replace O := O.callp [] o
              clear o
              simp only [put, List.cons_append, List.nil_append] at O
              have cs := O.facts
              simp only [factsP, cellsP, roomP, foots_cons, foots_nil, foots_append, foot_pt, ptb, ptb_mapA, foot_mapA, factsP_mapA, foot_bun, List.append_nil, List.nil_append, List.cons_append, List.nodup_cons, List.nodup_nil, List.mem_cons, List.not_mem_nil, List.mem_singleton, List.forall_mem_cons, not_or, not_false_eq_true, and_true, true_and, or_false, false_or, forall_eq_or_imp, forall_eq, implies_true, Nat.zero_add, Nat.reduceAdd, and_assoc, ptb_listA, factsP_listA, Nat.mul_one, rdL, byteCells] at cs
              go_wp2_with fail
              go_ret
              exact ⟨rfl, O.fr.below rfl⟩
          · rcases HCS.out with h | ⟨h, h'⟩ | ⟨h, h', h''⟩ | ⟨h, h', h'', h3, h4⟩ | ⟨h, h', h'', h3, h4, h5⟩ | ⟨h, h', h'', h3, h4, h5, h6⟩
            all_goals
              clear HCS
              have cs := O.facts
              simp only [factsP, cellsP, roomP, foots_cons, foots_nil, foots_append, foot_pt, ptb, ptb_mapA, foot_mapA, factsP_mapA, foot_bun, List.append_nil, List.nil_append, List.cons_append, List.nodup_cons, List.nodup_nil, List.mem_cons, List.not_mem_nil, List.mem_singleton, List.forall_mem_cons, not_or, not_false_eq_true, and_true, true_and, or_false, false_or, forall_eq_or_imp, forall_eq, implies_true, Nat.zero_add, Nat.reduceAdd, and_assoc, ptb_listA, factsP_listA, Nat.mul_one, rdL, byteCells] at cs
              go_wp2_with fail
              first | apply Mem.atCall | apply Mem.atCode | apply Mem.atList
              case h => repeat' (first | (with_reducible exact O) | (with_reducible apply Mem.drew) | (with_reducible apply Mem.drewN) | (with_reducible apply Mem.ext) | (with_reducible apply Mem.alloc) | (with_reducible apply Mem.setCell) | (simp only [ptb, ptb_upd, foots_cons, List.mem_cons, World.size_alloc, size_ext, World.size_setCell, true_or, or_true, eq_self_iff_true]))
              case' k =>
                intro z1 O'
                (try clear O)
                have O := O'
                clear O'
                (first | simp only [sel, rst, List.cons_append, List.nil_append, World.size_alloc, size_ext, World.size_setCell, size_setMap, World.size_drew, size_drewN, upd, List.set_cons_zero, List.set_cons_succ, if_true, if_false, reduceIte, not_false_eq_true, ne_lt0, ne_lt1, ne_lt2, ne_lt3, ne_lt4, cs] at O | simp only [sel, rst, List.cons_append, List.nil_append, World.size_alloc, size_ext, World.size_setCell, size_setMap, World.size_drew, size_drewN, upd, List.set_cons_zero, List.set_cons_succ, if_true, if_false, reduceIte, not_false_eq_true, ne_lt0, ne_lt1, ne_lt2, ne_lt3, ne_lt4] at O | skip)
                (try clear cs)
                (try clear v1)
                (try clear v2)
                (try clear v3)
              refine (HU.out _ (Mem.rd (c := cb) O (by simp))).mono ?_
              rintro e z2 ⟨Au, cu, rfl, o⟩
              replace O := O.callp [] o
              clear o
              simp only [put, List.cons_append, List.nil_append] at O
              have cs := O.facts
              simp only [factsP, cellsP, roomP, foots_cons, foots_nil, foots_append, foot_pt, ptb, ptb_mapA, foot_mapA, factsP_mapA, foot_bun, List.append_nil, List.nil_append, List.cons_append, List.nodup_cons, List.nodup_nil, List.mem_cons, List.not_mem_nil, List.mem_singleton, List.forall_mem_cons, not_or, not_false_eq_true, and_true, true_and, or_false, false_or, forall_eq_or_imp, forall_eq, implies_true, Nat.zero_add, Nat.reduceAdd, and_assoc, ptb_listA, factsP_listA, Nat.mul_one, rdL, byteCells] at cs
              go_wp2_with fail
              go_ret
              exact ⟨rfl, O.fr.below rfl⟩
set_option maxRecDepth 100000 in
theorem readFrameBack_22 : Try.prog.readableRec 22 = true ∧ 22 < Try.prog.types.size := ⟨by kernel_rfl, of_decide_eq_true (by kernel_rfl)⟩
set_option maxRecDepth 100000 in
theorem readFrameBack_3 : Try.prog.readableRec 3 = true ∧ 3 < Try.prog.types.size := ⟨by kernel_rfl, of_decide_eq_true (by kernel_rfl)⟩
set_option maxRecDepth 100000 in
theorem ownFrameBack : ownKnob Try.prog.godebug = none := by kernel_rfl
set_option maxRecDepth 100000 in
theorem laidOutFrameBack : laidOutB Try.prog = true := by kernel_rfl
set_option maxRecDepth 100000 in
theorem contractFrameBack (H : Type) (enc : TypeId × Value → H) (W : World) (base : Nat) (args : Array Value) (ds gs : List (DataW H)) (before : List MemPlace)
    (hval : ∀ (j : Nat) t v, Try.f4.params[j]? = some t → args[j]? = some v → Value.okWide Try.prog W .any base t v)
    (hW : DataW.Whole enc Try.prog Try.f4.params.toList Rows.frameBackSpec.vars false W args.toList ds gs before) (hk : Rows.uptoSmall H (ds ++ gs) = true) :
    Calls Try.prog 4 args W fun e W' => ∃ v, e = .returned v ∧ Rows.frameBackSpec.post enc Try.prog Try.f4 false true false false W args v W' := by
  have hfin : ∀ W', Below W.heap.size W W' → Rows.frameBackSpec.post enc Try.prog Try.f4 false true false false W args (.bool true) W' := fun W' hb =>
    post_of_walk (n := 3) (boolT := 4) rfl (fun ds h => by match ds, h with | [a0, a1, a2], _ => exact ⟨rfl, rfl, rfl⟩) rfl rfl Try.underlying4 laidOutFrameBack (fun t ht => by rw [Try.params4] at ht; simp at ht; first | ((rcases ht with rfl | rfl | rfl) <;> (first | exact readFrameBack_22 | exact readFrameBack_3)) | ((rcases ht with rfl | rfl) <;> (first | exact readFrameBack_22 | exact readFrameBack_3))) hW hb
  have hN : Rows.uptoBulkAll (ds ++ gs) ≤ 1048576 := of_decide_eq_true hk
  obtain ⟨p, q, hA, hV, rfl, hfz, hnd⟩ := hW
  rw [Try.params4] at hA hval
  obtain ⟨v0, vs0, d0, ds0, p0, q0, hargs, rfl, rfl, h0, r0⟩ := trodAll_cons hA
  obtain ⟨v1, vs1, d1, ds1, p1, q1, rfl, rfl, rfl, h1, r1⟩ := trodAll_cons r0
  obtain ⟨v2, vs2, d2, ds2, p2, q2, rfl, rfl, rfl, h2, r2⟩ := trodAll_cons r1
  obtain ⟨rfl, rfl, rfl⟩ := trodAll_nil r2
  obtain rfl : args = #[v0, v1, v2] := by cases args; simp_all
  simp only [List.cons_append, List.nil_append, Rows.uptoBulkAll] at hN
  obtain ⟨A0, len0, cap0, rfl⟩ := okWide_slice Try.underlying22 (hval 0 22 v0 rfl rfl)
  obtain ⟨f0, g0⟩ := h0
  have ty0 := typed_of_trod (N := 1048576) f0 _ _ _ g0 (by simp only; omega)
  obtain ⟨x1, rfl⟩ := okWide_int Try.underlying3 (hval 1 3 v1 rfl rfl)
  obtain ⟨f1, g1⟩ := h1
  have ty1 := typed_of_trod (N := 1048576) f1 _ _ _ g1 (by simp only; omega)
  obtain ⟨A2, len2, cap2, rfl⟩ := okWide_slice Try.underlying22 (hval 2 22 v2 rfl rfl)
  obtain ⟨f2, g2⟩ := h2
  have ty2 := typed_of_trod (N := 1048576) f2 _ _ _ g2 (by simp only; omega)
  obtain ⟨B0, c0, l0, hv0, hc0, hl0, hr0, _⟩ := read_bytes ty0
  obtain ⟨n, hn1, hn2⟩ := typed_int Try.underlying3 ty1
  obtain rfl : x1 = n := by simpa [Value.cells] using hn1
  obtain ⟨B2, c2, l2, hv2, hc2, hl2, hr2, _⟩ := read_bytes ty2
  simp only [Value.slice.injEq] at hv0 hv2
  obtain ⟨rfl, rfl, rfl⟩ := hv0
  obtain ⟨rfl, rfl, rfl⟩ := hv2
  exact (walkBack _ _ l0 x1 _ _ l2 W hr0 hc0 hl0 (bound64' hn2) hr2 hl2).mono fun e W' ⟨he, hy⟩ => ⟨_, he, hfin W' hy⟩

set_option maxRecDepth 100000 in
theorem liftedFrameBack (os : Os) (started : os.Started) (H : Type) (enc : TypeId × Value → H) (F : Stop.Interp) :
    ReturnsInHanded {} Try.checked os 4 .any ((Rows.OpenSpec.upto Rows.frameBackSpec).pre6 enc Try.prog Try.f4 Rows.frameBackUptoRow.domain false) (((Rows.OpenSpec.upto Rows.frameBackSpec).at F).post enc Try.prog Try.f4 false true false false) := by
  refine returnsInHanded_of_cond (C := Try.checked) (s := Rows.OpenSpec.upto Rows.frameBackSpec) (k := Rows.uptoSmall) rfl ownFrameBack started (by kernel_rfl) Try.func4
    (OpenSpec.witness (enc := enc) (C := Try.checked) (s := Rows.OpenSpec.upto Rows.frameBackSpec) (k := Rows.uptoSmall) rfl false
      ⟨#[], #[.slice none 0 0, .int .i64 0, .slice none 0 0], []⟩ 8 (by kernel_rfl) (by kernel_rfl) (by kernel_rfl)
      (x := ([.nil, .lit (.int .i64 0), .nil], [], [])) (by kernel_rfl) rfl (by kernel_rfl)) ?_
  intro W base args ds gs before hval hW _ hk _
  exact contractFrameBack H enc W base args ds gs before hval hW hk

theorem FrameBack_holds : Rows.FrameBackUptoSaid :=
  OpenClaim.holds_of_cond 4 Try.f4 rfl rfl rfl rfl rfl rfl rfl ⟨rfl, rfl, rfl, rfl, rfl⟩ rfl rfl rfl rfl rfl (by kernel_rfl) Try.func4 (by kernel_rfl)
    (of_decide_eq_true (by kernel_rfl)) (by unfold Func.isWrapper; first | (rw [if_pos (by decide +kernel)]; kernel_rfl) | (rw [if_neg (by decide +kernel)]; exact ⟨rfl, rfl⟩))
    (fun os started H enc _ F => liftedFrameBack os started H enc F)
end Go.Proofs.Ytomcahmgmmbmmaa
