/- WALKS: Get, Delete, Put. -/
import Derived.Test.YtomcekjhehceoaaSesD20
set_option linter.unusedVariables false
set_option linter.unusedSimpArgs false
namespace Go.Tk
open Go.RowKit
theorem cutXX0 {G : Prop} {α β : Type} (T : α → β → World → Prop) (main : Hid (∀ x y w, T x y w) → G) (tail : ∀ x y w, T x y w) : G := main (Lib.hid tail)
theorem cutXX1 {G : Prop} {α β : Type} (T : α → β → Nat → World → Prop) (main : Hid (∀ x y p w, T x y p w) → G) (tail : ∀ x y p w, T x y p w) : G := main (Lib.hid tail)
end Go.Tk
namespace Go.Proofs.Ytomcekjhehceoaa
open Go.RowKit Go.Tk
/-! ### plain -/
def hasP (ps : List LogP) (b : Int) : Bool := ps.any (fun p => decide (p.bucket = b))
theorem hasB_p (ls : List LogM) (b : Int) : hasB ls b = hasP (ls.map LogM.p) b := by
  unfold hasB hasP
  rw [List.any_map]
  rfl
def nowP (ps : List LogP) (b : Int) : List En := ((ps.find? (fun p => decide (p.bucket = b))).map (·.now)).getD []
def codeP (done : Bool) (ps : List LogP) (key value : ByteArray) : Int := if done = true then 201 else if mayKey key = false then 11 else if mayValue value = false then 12 else if hasP ps (bucketOf key) = false then 202 else 0
theorem codeK_p (done : Bool) (ls : List LogM) (key value : ByteArray) : codeK done ls key value = codeP done (ls.map LogM.p) key value := by
  unfold codeK codeP; rw [hasB_p]
def setNow (ps : List LogP) (b : Int) (l : List En) : List LogP := ps.map (fun p => if p.bucket = b then { p with now := l } else p)
def gotP (done : Bool) (ps : List LogP) (key : ByteArray) : ByteArray × Bool := if codeP done ps key .empty = 0 ∧ isK key (nowP ps (bucketOf key)) = true then (getK key (nowP ps (bucketOf key)), true) else (.empty, false)
theorem codeP_zero {done : Bool} {ps : List LogP} {key value : ByteArray} (h : codeP done ps key value = 0) : done = false ∧ mayKey key = true ∧ mayValue value = true ∧ hasP ps (bucketOf key) = true := by
  unfold codeP at h
  cases done
  · simp only [Bool.false_eq_true, if_false] at h
    cases h1 : mayKey key <;> simp [h1] at h
    cases h2 : mayValue value <;> simp [h2] at h
    cases h3 : hasP ps (bucketOf key) <;> simp [h3] at h
    exact ⟨rfl, rfl, rfl, rfl⟩
  · simp at h
theorem has_at {ls : List LogM} {b : Int} (h : hasP (ls.map LogM.p) b = true) : ∃ (i : Nat) (E : LogM), ls[i]? = some E ∧ E.bucket = b := by
  rw [← hasB_p] at h
  unfold hasB at h
  rw [List.any_eq_true] at h
  obtain ⟨E, hE, hb⟩ := h
  obtain ⟨i, hi⟩ := List.mem_iff_getElem?.1 hE
  exact ⟨i, E, hi, by simpa using hb⟩
theorem find_at {ls : List LogM} (hnd : (ls.map (·.bucket)).Nodup) {i : Nat} {E : LogM} (hi : ls[i]? = some E) : nowP (ls.map LogM.p) E.bucket = E.now := by
  unfold nowP
  induction ls generalizing i with
  | nil => simp at hi
  | cons x ls ih =>
    simp only [List.map_cons, List.nodup_cons] at hnd
    cases i with
    | zero =>
      simp only [List.getElem?_cons_zero, Option.some.injEq] at hi
      subst hi
      simp [LogM.p]
    | succ i =>
      simp only [List.getElem?_cons_succ] at hi
      have hne : x.bucket ≠ E.bucket := fun e => hnd.1 (by rw [e]; exact List.mem_map.2 ⟨E, List.mem_of_getElem? hi, rfl⟩)
      rw [List.map_cons, List.find?_cons_of_neg (by simp [LogM.p, hne])]
      exact ih hnd.2 hi
theorem set_now {ls : List LogM} (hnd : (ls.map (·.bucket)).Nodup) {i : Nat} {E : LogM} (hi : ls[i]? = some E) (A : Option Addr) (c : Nat) (l : List En) : (ls.set i { E with NA := A, nc := c, now := l }).map LogM.p = setNow (ls.map LogM.p) E.bucket l := by
  unfold setNow
  induction ls generalizing i with
  | nil => simp at hi
  | cons x ls ih =>
    simp only [List.map_cons, List.nodup_cons] at hnd
    cases i with
    | zero =>
      simp only [List.getElem?_cons_zero, Option.some.injEq] at hi
      subst hi
      simp only [List.set_cons_zero, List.map_cons, LogM.p, if_true]
      congr 1
      rw [List.map_map]
      apply List.map_congr_left
      intro y hy
      have hne : y.bucket ≠ x.bucket := fun e => hnd.1 (by rw [← e]; exact List.mem_map.2 ⟨y, hy, rfl⟩)
      simp [LogM.p, hne]
    | succ i =>
      simp only [List.getElem?_cons_succ] at hi
      have hne : x.bucket ≠ E.bucket := fun e => hnd.1 (by rw [e]; exact List.mem_map.2 ⟨E, List.mem_of_getElem? hi, rfl⟩)
      simp only [List.set_cons_succ, List.map_cons, LogM.p, if_neg hne]
      congr 1
      exact ih hnd.2 hi
/-- what every entry of a log keeps to, for the walks -/
def LogsOk (ls : List LogM) : Prop := ∀ E ∈ ls, Rising E.now ∧ E.now.length ≤ 8
def nGet : ByteArray := ⟨#[71, 101, 116]⟩
def nPut : ByteArray := ⟨#[80, 117, 116]⟩
def nDelete : ByteArray := ⟨#[68, 101, 108, 101, 116, 101]⟩
def nLearn : ByteArray := ⟨#[76, 101, 97, 114, 110]⟩
def nScan : ByteArray := ⟨#[83, 99, 97, 110]⟩
def nCommit : ByteArray := ⟨#[67, 111, 109, 109, 105, 116]⟩
theorem code_may {key : ByteArray} {done : Bool} {ls : List LogM} {value : ByteArray} : True := trivial
set_option maxRecDepth 100000 in
set_option maxHeartbeats 4000000 in
theorem s_Get (w : World) (S : SesH) (done : Bool) (ls : List LogM) (key : ByteArray) (hk : key.size ≤ 1048576) (hok : LogsOk ls) (h : Pre w (sesL S done ls)) :
    Calls Try.prog 20 #[S.val, .string key] w (fun r w' => ∃ q, r = .returned (.tuple #[.string (gotP done (ls.map LogM.p) key).1, .bool (gotP done (ls.map LogM.p) key).2, errV q]) ∧ ErrIs q (codeP done (ls.map LogM.p) key .empty) ∧ Mem w [] w' [errA q (codeP done (ls.map LogM.p) key .empty) nGet]) := by
  obtain ⟨r, hr⟩ : ∃ r, r = gotP done (ls.map LogM.p) key := ⟨_, rfl⟩
  rw [← hr]
  have H := Lib.hid h
  have O : Mem w [] w [] := Mem.begin
  have CN := Lib.hid (fun W hc (hW : Pre W (sesL S done ls)) => s_at_no W S done ls key .empty hk (by simp) hc hW)
  rw [codeK_p] at CN
  obtain ⟨c, hc⟩ : ∃ c, c = codeP done (ls.map LogM.p) key .empty := ⟨_, rfl⟩
  rw [← hc] at CN ⊢
  by_cases hc0 : c = 0
  · obtain ⟨rfl, k1, k2, k3⟩ := codeP_zero (hc.symm.trans hc0)
    obtain ⟨i, E, hi, hb⟩ := has_at k3
    have hnd := ses_nodup h
    have hnow := find_at hnd hi
    rw [hb] at hnow
    obtain ⟨ho1, ho2⟩ := hok E (List.mem_of_getElem? hi)
    have CY := Lib.hid (fun W (hW : Pre W (sesL S false ls)) => s_at W S ls key .empty hk (by simp) (by rw [codeK_p, ← hc, hc0]) i E hi hb ho1 ho2 hW)
    have EF := Lib.hid (fun W (hW : Pre W (sesL S false ls)) => by
      have O1 := ses_open (L := []) (w0 := W) (F := foots (sesL S false ls)) (by rw [List.append_nil]; exact hW) hi
      exact (And.intro (show factsP W E.parts from facts_of _ (fun A hA => O1.hold A (List.mem_append.2 (.inl hA))) (fun b hb => O1.lt b (by rw [foots_append]; exact List.mem_append.2 (.inl hb)))) (O1.hold (entsA E.NA E.nc E.now) (by simp [LogM.parts]))))
    have HC0 := Lib.hid hc0
    unfold gotP at hr
    rw [hnow, ← hc, hc0] at hr
    simp only [true_and] at hr
    clear CN hc k1 k2 k3 hnd hnow hb hi hok h hc0
    have SV : S.val = .pointer (some ⟨S.sb, 0, none⟩) := rfl
    rw [SV] at CY ⊢
    rw [HC0.out]
    clear HC0
    simp only [LogM.parts, LogM.cells] at EF
    cases hik : isK key E.now with
    | false =>
      rw [hik] at CY hr
      simp only [Bool.false_eq_true, if_false] at hr
      subst hr
      have HIK := Lib.hid hik
      clear hik
      generalize lbK key E.now = pp at CY
      have CF := Lib.hid (fun W => s_fault W nGet 0)
      unfold nGet at CF
      skip
      go_enter Try.func20, Try.ntmps20
      have cs := O.facts
      try simp only [factsP, cellsP, roomP, foots_cons, foots_nil, foots_append, foot_pt, ptb, ptb_mapA, foot_mapA, factsP_mapA, foot_bun, List.append_nil, List.nil_append, List.cons_append, List.nodup_cons, List.nodup_nil, List.mem_cons, List.not_mem_nil, List.mem_singleton, List.forall_mem_cons, not_or, not_false_eq_true, and_true, true_and, or_false, false_or, forall_eq_or_imp, forall_eq, implies_true, Nat.zero_add, Nat.reduceAdd, and_assoc, upd_listA, upd_mapA, upd_bun, upd_fam, ptb_listA, factsP_listA, factsP_mapA, ptb_mapA, Nat.mul_one, factsP_bun, ptb_bun, ptb_fam, factsP_fam, factsP_errA, ptb_errA, upd_errA, entCells] at cs
      go_wp2_with fail
      refine (CY.out _ (H.out.view O.fr)).mono ?_
      rintro e w1 ⟨rfl, o⟩
      replace O := O.callp [] o
      clear o
      simp only [put, List.cons_append, List.nil_append] at O
      have cs := O.facts
      try simp only [factsP, cellsP, roomP, foots_cons, foots_nil, foots_append, foot_pt, ptb, ptb_mapA, foot_mapA, factsP_mapA, foot_bun, List.append_nil, List.nil_append, List.cons_append, List.nodup_cons, List.nodup_nil, List.mem_cons, List.not_mem_nil, List.mem_singleton, List.forall_mem_cons, not_or, not_false_eq_true, and_true, true_and, or_false, false_or, forall_eq_or_imp, forall_eq, implies_true, Nat.zero_add, Nat.reduceAdd, and_assoc, upd_listA, upd_mapA, upd_bun, upd_fam, ptb_listA, factsP_listA, factsP_mapA, ptb_mapA, Nat.mul_one, factsP_bun, ptb_bun, ptb_fam, factsP_fam, factsP_errA, ptb_errA, upd_errA, entCells] at cs
      go_wp2_with fail
      refine (CF.out _).mono ?_
      rintro e w2 ⟨q, rfl, hq, o⟩
      replace O := O.callp [] o
      clear o
      simp only [put, List.nil_append] at O
      have cs := O.facts
      try simp only [factsP, cellsP, roomP, foots_cons, foots_nil, foots_append, foot_pt, ptb, ptb_mapA, foot_mapA, factsP_mapA, foot_bun, List.append_nil, List.nil_append, List.cons_append, List.nodup_cons, List.nodup_nil, List.mem_cons, List.not_mem_nil, List.mem_singleton, List.forall_mem_cons, not_or, not_false_eq_true, and_true, true_and, or_false, false_or, forall_eq_or_imp, forall_eq, implies_true, Nat.zero_add, Nat.reduceAdd, and_assoc, upd_listA, upd_mapA, upd_bun, upd_fam, ptb_listA, factsP_listA, factsP_mapA, ptb_mapA, Nat.mul_one, factsP_bun, ptb_bun, ptb_fam, factsP_fam, factsP_errA, ptb_errA, upd_errA, entCells] at cs
      go_wp2_with fail
      refine bodyPost_ret (v := .tuple #[.string .empty, .bool false, errV q]) (by simp [results, Try.results20, go_sem]; rfl) rfl ⟨q, rfl, hq, O⟩
    | true =>
      obtain ⟨v, hv, hg⟩ := isK_at hik
      rw [hik] at CY hr
      simp only [if_true] at hr
      rw [hg] at hr
      subst hr
      have HX := Lib.hid hv
      have hpl := (List.getElem?_eq_some_iff.1 hv).1
      clear hik hv hg
      generalize lbK key E.now = pp at CY HX hpl
      obtain ⟨tb, eb, ev, ei, WA, wc, was, NA, nc, now⟩ := E
      simp only at CY EF HX hpl ho1 ho2 ⊢
      obtain ⟨g, rfl, _⟩ := listA_get entLen (EF.out _ H.out).2 HX.out
      have hppi : (pp : Int) < now.length := by omega
      skip
      go_enter Try.func20, Try.ntmps20
      have cs := O.facts
      try simp only [factsP, cellsP, roomP, foots_cons, foots_nil, foots_append, foot_pt, ptb, ptb_mapA, foot_mapA, factsP_mapA, foot_bun, List.append_nil, List.nil_append, List.cons_append, List.nodup_cons, List.nodup_nil, List.mem_cons, List.not_mem_nil, List.mem_singleton, List.forall_mem_cons, not_or, not_false_eq_true, and_true, true_and, or_false, false_or, forall_eq_or_imp, forall_eq, implies_true, Nat.zero_add, Nat.reduceAdd, and_assoc, upd_listA, upd_mapA, upd_bun, upd_fam, ptb_listA, factsP_listA, factsP_mapA, ptb_mapA, Nat.mul_one, factsP_bun, ptb_bun, ptb_fam, factsP_fam, factsP_errA, ptb_errA, upd_errA, entCells] at cs
      have v1 := (EF.out _ (H.out.view O.fr)).1
      try simp only [cellsQ, roomP, and_assoc, and_true, true_and, Nat.add_zero, Nat.zero_add, Nat.reduceAdd, factsP, cellsP, roomP, foots_cons, foots_nil, foots_append, foot_pt, ptb, ptb_mapA, foot_mapA, factsP_mapA, foot_bun, List.append_nil, List.nil_append, List.cons_append, List.nodup_cons, List.nodup_nil, List.mem_cons, List.not_mem_nil, List.mem_singleton, List.forall_mem_cons, not_or, not_false_eq_true, and_true, true_and, or_false, false_or, forall_eq_or_imp, forall_eq, implies_true, Nat.zero_add, Nat.reduceAdd, and_assoc, upd_listA, upd_mapA, upd_bun, upd_fam, ptb_listA, factsP_listA, factsP_mapA, ptb_mapA, Nat.mul_one, factsP_bun, ptb_bun, ptb_fam, factsP_fam, factsP_errA, ptb_errA, upd_errA, entCells] at v1
      try have v2 := (listA_at entLen (EF.out _ (H.out.view O.fr)).2 HX.out)
      try simp only [cellsQ, roomP, and_assoc, and_true, true_and, Nat.add_zero, Nat.zero_add, Nat.reduceAdd, factsP, cellsP, roomP, foots_cons, foots_nil, foots_append, foot_pt, ptb, ptb_mapA, foot_mapA, factsP_mapA, foot_bun, List.append_nil, List.nil_append, List.cons_append, List.nodup_cons, List.nodup_nil, List.mem_cons, List.not_mem_nil, List.mem_singleton, List.forall_mem_cons, not_or, not_false_eq_true, and_true, true_and, or_false, false_or, forall_eq_or_imp, forall_eq, implies_true, Nat.zero_add, Nat.reduceAdd, and_assoc, upd_listA, upd_mapA, upd_bun, upd_fam, ptb_listA, factsP_listA, factsP_mapA, ptb_mapA, Nat.mul_one, factsP_bun, ptb_bun, ptb_fam, factsP_fam, factsP_errA, ptb_errA, upd_errA, entCells] at v2
      go_wp2_with fail
      refine (CY.out _ (H.out.view O.fr)).mono ?_
      rintro e w1 ⟨rfl, o⟩
      replace O := O.callp [] o
      clear o
      simp only [put, List.cons_append, List.nil_append] at O
      have cs := O.facts
      try simp only [factsP, cellsP, roomP, foots_cons, foots_nil, foots_append, foot_pt, ptb, ptb_mapA, foot_mapA, factsP_mapA, foot_bun, List.append_nil, List.nil_append, List.cons_append, List.nodup_cons, List.nodup_nil, List.mem_cons, List.not_mem_nil, List.mem_singleton, List.forall_mem_cons, not_or, not_false_eq_true, and_true, true_and, or_false, false_or, forall_eq_or_imp, forall_eq, implies_true, Nat.zero_add, Nat.reduceAdd, and_assoc, upd_listA, upd_mapA, upd_bun, upd_fam, ptb_listA, factsP_listA, factsP_mapA, ptb_mapA, Nat.mul_one, factsP_bun, ptb_bun, ptb_fam, factsP_fam, factsP_errA, ptb_errA, upd_errA, entCells] at cs
      have v1 := (EF.out _ (H.out.view O.fr)).1
      try simp only [cellsQ, roomP, and_assoc, and_true, true_and, Nat.add_zero, Nat.zero_add, Nat.reduceAdd, factsP, cellsP, roomP, foots_cons, foots_nil, foots_append, foot_pt, ptb, ptb_mapA, foot_mapA, factsP_mapA, foot_bun, List.append_nil, List.nil_append, List.cons_append, List.nodup_cons, List.nodup_nil, List.mem_cons, List.not_mem_nil, List.mem_singleton, List.forall_mem_cons, not_or, not_false_eq_true, and_true, true_and, or_false, false_or, forall_eq_or_imp, forall_eq, implies_true, Nat.zero_add, Nat.reduceAdd, and_assoc, upd_listA, upd_mapA, upd_bun, upd_fam, ptb_listA, factsP_listA, factsP_mapA, ptb_mapA, Nat.mul_one, factsP_bun, ptb_bun, ptb_fam, factsP_fam, factsP_errA, ptb_errA, upd_errA, entCells] at v1
      try have v2 := (listA_at entLen (EF.out _ (H.out.view O.fr)).2 HX.out)
      try simp only [cellsQ, roomP, and_assoc, and_true, true_and, Nat.add_zero, Nat.zero_add, Nat.reduceAdd, factsP, cellsP, roomP, foots_cons, foots_nil, foots_append, foot_pt, ptb, ptb_mapA, foot_mapA, factsP_mapA, foot_bun, List.append_nil, List.nil_append, List.cons_append, List.nodup_cons, List.nodup_nil, List.mem_cons, List.not_mem_nil, List.mem_singleton, List.forall_mem_cons, not_or, not_false_eq_true, and_true, true_and, or_false, false_or, forall_eq_or_imp, forall_eq, implies_true, Nat.zero_add, Nat.reduceAdd, and_assoc, upd_listA, upd_mapA, upd_bun, upd_fam, ptb_listA, factsP_listA, factsP_mapA, ptb_mapA, Nat.mul_one, factsP_bun, ptb_bun, ptb_fam, factsP_fam, factsP_errA, ptb_errA, upd_errA, entCells] at v2
      go_wp2_with fail
      refine bodyPost_ret (v := .tuple #[.string v, .bool true, errV none]) (by simp [results, Try.results20, go_sem]; rfl) rfl ⟨none, rfl, ErrIs.nil, Mem.shut (l := []) O⟩
  · have CN2 := Lib.hid (fun W (hW : Pre W (sesL S done ls)) => CN.out W hc0 hW)
    have CF := Lib.hid (fun W => s_fault W nGet c)
    have hc1 : (c == 0) = false := by simpa using hc0
    have hc2 : (c != 0) = true := by simpa using hc0
    unfold gotP at hr
    rw [← hc, if_neg (fun x => hc0 x.1)] at hr
    subst hr
    clear CN h hok hc
    have SV : S.val = .pointer (some ⟨S.sb, 0, none⟩) := rfl
    rw [SV] at CN2 ⊢
    have HC0 := Lib.hid hc0
    clear hc0
    skip
    unfold nGet at CF
    go_enter Try.func20, Try.ntmps20
    have cs := O.facts
    try simp only [factsP, cellsP, roomP, foots_cons, foots_nil, foots_append, foot_pt, ptb, ptb_mapA, foot_mapA, factsP_mapA, foot_bun, List.append_nil, List.nil_append, List.cons_append, List.nodup_cons, List.nodup_nil, List.mem_cons, List.not_mem_nil, List.mem_singleton, List.forall_mem_cons, not_or, not_false_eq_true, and_true, true_and, or_false, false_or, forall_eq_or_imp, forall_eq, implies_true, Nat.zero_add, Nat.reduceAdd, and_assoc, upd_listA, upd_mapA, upd_bun, upd_fam, ptb_listA, factsP_listA, factsP_mapA, ptb_mapA, Nat.mul_one, factsP_bun, ptb_bun, ptb_fam, factsP_fam, factsP_errA, ptb_errA, upd_errA, entCells] at cs
    go_wp2_with fail
    refine (CN2.out _ (H.out.view O.fr)).mono ?_
    rintro e w1 ⟨rfl, o⟩
    replace O := O.callp [] o
    clear o
    simp only [put, List.cons_append, List.nil_append] at O
    have cs := O.facts
    try simp only [factsP, cellsP, roomP, foots_cons, foots_nil, foots_append, foot_pt, ptb, ptb_mapA, foot_mapA, factsP_mapA, foot_bun, List.append_nil, List.nil_append, List.cons_append, List.nodup_cons, List.nodup_nil, List.mem_cons, List.not_mem_nil, List.mem_singleton, List.forall_mem_cons, not_or, not_false_eq_true, and_true, true_and, or_false, false_or, forall_eq_or_imp, forall_eq, implies_true, Nat.zero_add, Nat.reduceAdd, and_assoc, upd_listA, upd_mapA, upd_bun, upd_fam, ptb_listA, factsP_listA, factsP_mapA, ptb_mapA, Nat.mul_one, factsP_bun, ptb_bun, ptb_fam, factsP_fam, factsP_errA, ptb_errA, upd_errA, entCells] at cs
    go_wp2_with fail
    refine (CF.out _).mono ?_
    rintro e w2 ⟨q, rfl, hq, o⟩
    replace O := O.callp [] o
    clear o
    simp only [put, List.nil_append] at O
    have cs := O.facts
    try simp only [factsP, cellsP, roomP, foots_cons, foots_nil, foots_append, foot_pt, ptb, ptb_mapA, foot_mapA, factsP_mapA, foot_bun, List.append_nil, List.nil_append, List.cons_append, List.nodup_cons, List.nodup_nil, List.mem_cons, List.not_mem_nil, List.mem_singleton, List.forall_mem_cons, not_or, not_false_eq_true, and_true, true_and, or_false, false_or, forall_eq_or_imp, forall_eq, implies_true, Nat.zero_add, Nat.reduceAdd, and_assoc, upd_listA, upd_mapA, upd_bun, upd_fam, ptb_listA, factsP_listA, factsP_mapA, ptb_mapA, Nat.mul_one, factsP_bun, ptb_bun, ptb_fam, factsP_fam, factsP_errA, ptb_errA, upd_errA, entCells] at cs
    go_wp2_with fail
    refine bodyPost_ret (v := .tuple #[.string .empty, .bool false, errV q]) (by simp [results, Try.results20, go_sem]; rfl) rfl ⟨q, rfl, hq, O⟩
end Go.Proofs.Ytomcekjhehceoaa
