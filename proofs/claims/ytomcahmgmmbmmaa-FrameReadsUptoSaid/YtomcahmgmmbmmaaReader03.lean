/- WALKS: a reader of frames (New, Feed, Next, Waiting). -/
import Derived.Test.YtomcahmgmmbmmaaUnw03
set_option linter.unusedVariables false
set_option linter.unusedSimpArgs false
namespace Go.Proofs.Ytomcahmgmmbmmaa
open Go.RowKit Go.Tk
def rdL (pb : Nat) (A : Option Addr) (c : Nat) (l : List UInt8) : List Asn := [.pt pb [.slice A l.length c] 59, bytesA A c l]
def nextP (l : List UInt8) : List UInt8 × Bool × Int × List UInt8 :=
  if (faultP l).2 ≠ 0 then ([], false, (faultP l).2, l) else if (faultP l).1 = 0 ∨ l.length < (faultP l).1 then ([], false, 0, l) else
  if (bodyP (l.take (faultP l).1)).2 ≠ 0 then ([], false, (bodyP (l.take (faultP l).1)).2, l) else ((bodyP (l.take (faultP l).1)).1.getD [], true, 0, l.drop (faultP l).1)
theorem listA_cap {e : TypeId} {size : Nat} {α : Type} {cs : α → List Value} {A : Option Addr} {c : Nat} {l : List α} {w : World} (h : (listA e size cs A c l).holds w) : l.length ≤ c ∧ (A = none → c = 0) := by
  cases A with
  | none => obtain ⟨h1, h2⟩ := listA_none h; subst h1 h2; simp
  | some a => obtain ⟨g, cur, h1, h2, h3, _⟩ := listA_some h; exact ⟨h3, fun x => by simp at x⟩
set_option maxRecDepth 100000 in
set_option maxHeartbeats 8000000 in
theorem fr_New (w : World) : Calls Try.prog 21 #[] w (fun e w' => e = .returned (.pointer (some ⟨w.heap.size, 0, none⟩)) ∧ Mem w [] w' (rdL w.heap.size none 0 [])) := by
  have O : Mem w [] w [] := Mem.begin
  go_enter Try.func21, Try.ntmps21
  have cs := O.facts
  simp only [factsP, cellsP, roomP, foots_cons, foots_nil, foots_append, foot_pt, ptb, ptb_mapA, foot_mapA, factsP_mapA, foot_bun, List.append_nil, List.nil_append, List.cons_append, List.nodup_cons, List.nodup_nil, List.mem_cons, List.not_mem_nil, List.mem_singleton, List.forall_mem_cons, not_or, not_false_eq_true, and_true, true_and, or_false, false_or, forall_eq_or_imp, forall_eq, implies_true, Nat.zero_add, Nat.reduceAdd, and_assoc, ptb_listA, factsP_listA, Nat.mul_one, rdL] at cs
  go_wp2_with fail
  go_ret
  refine ⟨rfl, ?_⟩
  exact (Mem.listNil (e := 5) (size := 1) (cs := byteCells) (O.alloc [.slice none 0 0] 59)).perm (List.Perm.swap _ _ _)
set_option maxRecDepth 100000 in
set_option maxHeartbeats 8000000 in
theorem fr_Waiting (w : World) (pb : Nat) (A : Option Addr) (c : Nat) (l : List UInt8) (h : Pre w (rdL pb A c l)) :
    Calls Try.prog 20 #[.pointer (some ⟨pb, 0, none⟩)] w (fun e w' => e = .returned (.int .i64 l.length) ∧ Mem w [] w' []) := by
  have O : Mem w [] w [] := Mem.begin
  have H := Lib.hid h
  clear h
  skip
  go_enter Try.func20, Try.ntmps20
  have cs := O.facts
  simp only [factsP, cellsP, roomP, foots_cons, foots_nil, foots_append, foot_pt, ptb, ptb_mapA, foot_mapA, factsP_mapA, foot_bun, List.append_nil, List.nil_append, List.cons_append, List.nodup_cons, List.nodup_nil, List.mem_cons, List.not_mem_nil, List.mem_singleton, List.forall_mem_cons, not_or, not_false_eq_true, and_true, true_and, or_false, false_or, forall_eq_or_imp, forall_eq, implies_true, Nat.zero_add, Nat.reduceAdd, and_assoc, ptb_listA, factsP_listA, Nat.mul_one, rdL] at cs
  have v1 := (H.out.view O.fr).facts
  try simp only [cellsQ, roomP, and_assoc, and_true, true_and, Nat.add_zero, Nat.zero_add, Nat.reduceAdd, factsP, cellsP, roomP, foots_cons, foots_nil, foots_append, foot_pt, ptb, ptb_mapA, foot_mapA, factsP_mapA, foot_bun, List.append_nil, List.nil_append, List.cons_append, List.nodup_cons, List.nodup_nil, List.mem_cons, List.not_mem_nil, List.mem_singleton, List.forall_mem_cons, not_or, not_false_eq_true, and_true, true_and, or_false, false_or, forall_eq_or_imp, forall_eq, implies_true, Nat.zero_add, Nat.reduceAdd, and_assoc, ptb_listA, factsP_listA, Nat.mul_one, rdL] at v1
  go_wp2_with fail
  go_ret
  exact ⟨rfl, O⟩
set_option maxRecDepth 100000 in
set_option maxHeartbeats 8000000 in
theorem fr_Feed_no (w : World) (pb : Nat) (A : Option Addr) (c : Nat) (l : List UInt8) (B : Option Addr) (d : Nat) (n : Nat) (h : Pre w (rdL pb A c l)) (hl : l.length ≤ 131072) (hn : 131072 < l.length + n) (hn2 : n ≤ 2000000) :
    Calls Try.prog 18 #[.pointer (some ⟨pb, 0, none⟩), .slice B n d] w (fun e w' => e = .returned (.int .i64 35) ∧ Mem w [] w' []) := by
  have O : Mem w [] w [] := Mem.begin
  have H := Lib.hid h
  clear h
  obtain ⟨N, hN⟩ : ∃ N : Int, N = 131072 - (l.length : Int) := ⟨_, rfl⟩
  have w1' : IntKind.i64.wrap (131072 - (l.length : Int)) = 131072 - (l.length : Int) := by simp [IntKind.wrap, IntKind.signed, IntKind.bits]; omega
  have h1 : 131072 - (l.length : Int) < n := by omega
  clear hN hl hn hn2
  skip
  go_enter Try.func18, Try.ntmps18
  have cs := O.facts
  simp only [factsP, cellsP, roomP, foots_cons, foots_nil, foots_append, foot_pt, ptb, ptb_mapA, foot_mapA, factsP_mapA, foot_bun, List.append_nil, List.nil_append, List.cons_append, List.nodup_cons, List.nodup_nil, List.mem_cons, List.not_mem_nil, List.mem_singleton, List.forall_mem_cons, not_or, not_false_eq_true, and_true, true_and, or_false, false_or, forall_eq_or_imp, forall_eq, implies_true, Nat.zero_add, Nat.reduceAdd, and_assoc, ptb_listA, factsP_listA, Nat.mul_one, rdL] at cs
  have v1 := (H.out.view O.fr).facts
  try simp only [cellsQ, roomP, and_assoc, and_true, true_and, Nat.add_zero, Nat.zero_add, Nat.reduceAdd, factsP, cellsP, roomP, foots_cons, foots_nil, foots_append, foot_pt, ptb, ptb_mapA, foot_mapA, factsP_mapA, foot_bun, List.append_nil, List.nil_append, List.cons_append, List.nodup_cons, List.nodup_nil, List.mem_cons, List.not_mem_nil, List.mem_singleton, List.forall_mem_cons, not_or, not_false_eq_true, and_true, true_and, or_false, false_or, forall_eq_or_imp, forall_eq, implies_true, Nat.zero_add, Nat.reduceAdd, and_assoc, ptb_listA, factsP_listA, Nat.mul_one, rdL] at v1
  go_wp2_with fail
  go_ret
  exact ⟨rfl, O⟩
set_option maxRecDepth 100000 in
set_option maxHeartbeats 8000000 in
theorem fr_Feed (w : World) (pb : Nat) (A : Option Addr) (c : Nat) (l : List UInt8) (B : Option Addr) (d : Nat) (m : List UInt8) (h : Pre w (rdL pb A c l)) (hr : Rd w B m) (hl : l.length + m.length ≤ 131072) :
    Calls Try.prog 18 #[.pointer (some ⟨pb, 0, none⟩), .slice B m.length d] w (fun e w' => e = .returned (.int .i64 0) ∧ ∃ A' c', Mem w (foots (rdL pb A c l)) w' (rdL pb A' c' (l ++ m))) := by
  obtain ⟨fp, hfp⟩ : ∃ F, F = foots (rdL pb A c l) := ⟨_, rfl⟩
  have O : Mem w fp w (rdL pb A c l) := by rw [hfp]; exact h
  rw [← hfp]
  clear hfp h
  have w1' : IntKind.i64.wrap (131072 - (l.length : Int)) = 131072 - (l.length : Int) := by simp [IntKind.wrap, IntKind.signed, IntKind.bits]; omega
  have h1 : ¬ (131072 - (l.length : Int) < m.length) := by omega
  have HL := Lib.hid hl
  have HR := Lib.hid hr
  clear hl hr
  simp only [rdL] at O
  skip
  go_enter Try.func18, Try.ntmps18
  have cs := O.facts
  simp only [factsP, cellsP, roomP, foots_cons, foots_nil, foots_append, foot_pt, ptb, ptb_mapA, foot_mapA, factsP_mapA, foot_bun, List.append_nil, List.nil_append, List.cons_append, List.nodup_cons, List.nodup_nil, List.mem_cons, List.not_mem_nil, List.mem_singleton, List.forall_mem_cons, not_or, not_false_eq_true, and_true, true_and, or_false, false_or, forall_eq_or_imp, forall_eq, implies_true, Nat.zero_add, Nat.reduceAdd, and_assoc, ptb_listA, factsP_listA, Nat.mul_one, rdL] at cs
  go_wp2_with ((at_builtin; refine byteTy.wl_app (O.front1 [false, true] rfl) rfl rfl rfl rfl m rfl rfl HR.out.src (by have := HL.out; omega) ?_; intro A1 c1 w4 O4; have cs1 := O4.facts; simp only [rst, factsP, cellsP, roomP, foots_cons, foots_nil, foots_append, foot_pt, ptb, ptb_mapA, foot_mapA, factsP_mapA, foot_bun, List.append_nil, List.nil_append, List.cons_append, List.nodup_cons, List.nodup_nil, List.mem_cons, List.not_mem_nil, List.mem_singleton, List.forall_mem_cons, not_or, not_false_eq_true, and_true, true_and, or_false, false_or, forall_eq_or_imp, forall_eq, implies_true, Nat.zero_add, Nat.reduceAdd, and_assoc, ptb_listA, factsP_listA, Nat.mul_one, rdL] at cs1))
  clear O cs
  have cs := cs1
  clear cs1
  replace O4 := O4.unfront
  simp only [put, List.cons_append, List.nil_append] at O4
  have O := O4
  clear O4
  go_ret
  refine ⟨rfl, A1, c1, ?_⟩
  simp only [rdL, List.length_append]
  apply Mem.to [true, true]
  · repeat' (first | (with_reducible exact O) | (with_reducible apply Mem.drew) | (with_reducible apply Mem.drewN) | (with_reducible apply Mem.ext) | (with_reducible apply Mem.alloc) | (with_reducible apply Mem.setCell) | (simp only [ptb, ptb_upd, foots_cons, List.mem_cons, World.size_alloc, size_ext, World.size_setCell, true_or, or_true, eq_self_iff_true]))
  · first | with_reducible rfl | (simp only [sel, rst, List.cons_append, List.nil_append, World.size_alloc, size_ext, World.size_setCell, size_setMap, World.size_drew, size_drewN, upd, List.set_cons_zero, List.set_cons_succ, if_true, if_false, reduceIte, not_false_eq_true, ne_lt0, ne_lt1, ne_lt2, ne_lt3, ne_lt4, cs]; done) | (simp only [sel, rst, List.cons_append, List.nil_append, World.size_alloc, size_ext, World.size_setCell, size_setMap, World.size_drew, size_drewN, upd, List.set_cons_zero, List.set_cons_succ, if_true, if_false, reduceIte, not_false_eq_true, ne_lt0, ne_lt1, ne_lt2, ne_lt3, ne_lt4]; done) | (simp only [sel, rst, List.cons_append, List.nil_append, World.size_alloc, size_ext, World.size_setCell, size_setMap, World.size_drew, size_drewN, upd, List.set_cons_zero, List.set_cons_succ, if_true, if_false, reduceIte, not_false_eq_true, ne_lt0, ne_lt1, ne_lt2, ne_lt3, ne_lt4, cs]; rfl) | (simp only [sel, rst, List.cons_append, List.nil_append, World.size_alloc, size_ext, World.size_setCell, size_setMap, World.size_drew, size_drewN, upd, List.set_cons_zero, List.set_cons_succ, if_true, if_false, reduceIte, not_false_eq_true, ne_lt0, ne_lt1, ne_lt2, ne_lt3, ne_lt4]; rfl)
set_option maxRecDepth 100000 in
set_option maxHeartbeats 8000000 in
theorem fr_Next (w : World) (pb : Nat) (A : Option Addr) (c : Nat) (l : List UInt8) (h : Pre w (rdL pb A c l)) (hl : l.length ≤ 131072) :
    Calls Try.prog 19 #[.pointer (some ⟨pb, 0, none⟩)] w (fun e w' => ∃ B d A' c', e = .returned (.tuple #[.slice B (nextP l).1.length d, .bool (nextP l).2.1, .int .i64 (nextP l).2.2.1]) ∧ Mem w (foots (rdL pb A c l)) w' (bytesA B d (nextP l).1 :: rdL pb A' c' (nextP l).2.2.2)) := by
  obtain ⟨fp, hfp⟩ : ∃ F, F = foots (rdL pb A c l) := ⟨_, rfl⟩
  have O : Mem w fp w (rdL pb A c l) := by rw [hfp]; exact h
  rw [← hfp]
  clear hfp h
  obtain ⟨hc, hA0⟩ := listA_cap (O.hold (bytesA A c l) (by simp [rdL]))
  obtain ⟨v, hv⟩ : ∃ v, v = nextP l := ⟨_, rfl⟩
  rw [← hv]
  have CF := Lib.hid (fun W hR => fr_fault W A c l hR hc (by omega))
  have CB := fun W hR h1 h2 h3 => fr_body W A c (l.take (faultP l).1) hR h1 h2 h3
  unfold nextP at hv
  have hfs : (faultP l).2 = 0 → (faultP l).1 = 0 ∨ 10 ≤ (faultP l).1 := by
    intro h
    unfold faultP at h ⊢
    split
    · exact .inl rfl
    · split
      · exact .inl rfl
      · split
        · exact .inl rfl
        · exact .inr (by simp)
  generalize faultP l = ft at *
  obtain ⟨fs, fe⟩ := ft
  generalize hbd : bodyP (l.take fs) = bd at *
  simp only at hv CF CB hfs
  have HV := Lib.hid hv
  have HB := Lib.hid CB
  clear hv hbd CB
  simp only [rdL] at O
  skip
  by_cases he : fe ≠ 0
  · have hv := HV.out
    rw [if_pos he] at hv
    subst hv
    have he2 : (fe == 0) = false := by simpa using he
    have he3 : ¬ (fe = 0) := he
    clear HV he hfs
    go_enter Try.func19, Try.ntmps19
    have cs := O.facts
    simp only [factsP, cellsP, roomP, foots_cons, foots_nil, foots_append, foot_pt, ptb, ptb_mapA, foot_mapA, factsP_mapA, foot_bun, List.append_nil, List.nil_append, List.cons_append, List.nodup_cons, List.nodup_nil, List.mem_cons, List.not_mem_nil, List.mem_singleton, List.forall_mem_cons, not_or, not_false_eq_true, and_true, true_and, or_false, false_or, forall_eq_or_imp, forall_eq, implies_true, Nat.zero_add, Nat.reduceAdd, and_assoc, ptb_listA, factsP_listA, Nat.mul_one, rdL] at cs
    go_wp2_with fail
    first | apply Mem.atCall | apply Mem.atCode | apply Mem.atList
    case h => repeat' (first | (with_reducible exact O) | (with_reducible apply Mem.drew) | (with_reducible apply Mem.drewN) | (with_reducible apply Mem.ext) | (with_reducible apply Mem.alloc) | (with_reducible apply Mem.setCell) | (simp only [ptb, ptb_upd, foots_cons, List.mem_cons, World.size_alloc, size_ext, World.size_setCell, true_or, or_true, eq_self_iff_true]))
    case' k =>
      intro w1 O'
      (try clear O)
      have O := O'
      clear O'
      (first | simp only [sel, rst, List.cons_append, List.nil_append, World.size_alloc, size_ext, World.size_setCell, size_setMap, World.size_drew, size_drewN, upd, List.set_cons_zero, List.set_cons_succ, if_true, if_false, reduceIte, not_false_eq_true, ne_lt0, ne_lt1, ne_lt2, ne_lt3, ne_lt4, cs] at O | simp only [sel, rst, List.cons_append, List.nil_append, World.size_alloc, size_ext, World.size_setCell, size_setMap, World.size_drew, size_drewN, upd, List.set_cons_zero, List.set_cons_succ, if_true, if_false, reduceIte, not_false_eq_true, ne_lt0, ne_lt1, ne_lt2, ne_lt3, ne_lt4] at O | skip)
      (try clear cs)
      (try clear v1)
      (try clear v2)
      (try clear v3)
    refine (CF.out _ (Mem.rd (c := c) O (by simp))).mono ?_
    rintro e w2 ⟨rfl, o⟩
    replace O := O.callp [] o
    clear o
    simp only [put, List.cons_append, List.nil_append] at O
    have cs := O.facts
    simp only [factsP, cellsP, roomP, foots_cons, foots_nil, foots_append, foot_pt, ptb, ptb_mapA, foot_mapA, factsP_mapA, foot_bun, List.append_nil, List.nil_append, List.cons_append, List.nodup_cons, List.nodup_nil, List.mem_cons, List.not_mem_nil, List.mem_singleton, List.forall_mem_cons, not_or, not_false_eq_true, and_true, true_and, or_false, false_or, forall_eq_or_imp, forall_eq, implies_true, Nat.zero_add, Nat.reduceAdd, and_assoc, ptb_listA, factsP_listA, Nat.mul_one, rdL] at cs
    go_wp2_with fail
    refine bodyPost_ret (v := .tuple #[.slice none 0 0, .bool false, .int .i64 fe]) (by simp [results, Try.results19, go_sem]) rfl ⟨none, 0, A, c, rfl, Mem.listNil O⟩
  · have he0 : fe = 0 := by simpa using he
    subst he0
    have hv := HV.out
    rw [if_neg he] at hv
    have hfs2 := hfs rfl
    have HV2 := Lib.hid hv
    clear HV he hfs hv
    by_cases hz : fs = 0 ∨ l.length < fs
    · have hv := HV2.out
      rw [if_pos hz] at hv
      subst hv
      have hz2 : fs = 0 ∨ ((fs == 0) = false ∧ ((fs : Int) = 0) = False ∧ (l.length : Int) < fs) := by
        rcases hz with hz | hz
        · exact .inl hz
        · by_cases h0 : fs = 0
          · exact .inl h0
          · exact .inr ⟨by simpa using h0, by simp; omega, by omega⟩
      have HZ := Lib.hid hz2
      clear hz hz2 HV2 hfs2
      rcases HZ.out with rfl | ⟨h1, h2, h3⟩
      all_goals
        clear HZ
        go_enter Try.func19, Try.ntmps19
        have cs := O.facts
        simp only [factsP, cellsP, roomP, foots_cons, foots_nil, foots_append, foot_pt, ptb, ptb_mapA, foot_mapA, factsP_mapA, foot_bun, List.append_nil, List.nil_append, List.cons_append, List.nodup_cons, List.nodup_nil, List.mem_cons, List.not_mem_nil, List.mem_singleton, List.forall_mem_cons, not_or, not_false_eq_true, and_true, true_and, or_false, false_or, forall_eq_or_imp, forall_eq, implies_true, Nat.zero_add, Nat.reduceAdd, and_assoc, ptb_listA, factsP_listA, Nat.mul_one, rdL] at cs
        go_wp2_with fail
        first | apply Mem.atCall | apply Mem.atCode | apply Mem.atList
        case h => repeat' (first | (with_reducible exact O) | (with_reducible apply Mem.drew) | (with_reducible apply Mem.drewN) | (with_reducible apply Mem.ext) | (with_reducible apply Mem.alloc) | (with_reducible apply Mem.setCell) | (simp only [ptb, ptb_upd, foots_cons, List.mem_cons, World.size_alloc, size_ext, World.size_setCell, true_or, or_true, eq_self_iff_true]))
        case' k =>
          intro w1 O'
          (try clear O)
          have O := O'
          clear O'
          (first | simp only [sel, rst, List.cons_append, List.nil_append, World.size_alloc, size_ext, World.size_setCell, size_setMap, World.size_drew, size_drewN, upd, List.set_cons_zero, List.set_cons_succ, if_true, if_false, reduceIte, not_false_eq_true, ne_lt0, ne_lt1, ne_lt2, ne_lt3, ne_lt4, cs] at O | simp only [sel, rst, List.cons_append, List.nil_append, World.size_alloc, size_ext, World.size_setCell, size_setMap, World.size_drew, size_drewN, upd, List.set_cons_zero, List.set_cons_succ, if_true, if_false, reduceIte, not_false_eq_true, ne_lt0, ne_lt1, ne_lt2, ne_lt3, ne_lt4] at O | skip)
          (try clear cs)
          (try clear v1)
          (try clear v2)
          (try clear v3)
        refine (CF.out _ (Mem.rd (c := c) O (by simp))).mono ?_
        rintro e w2 ⟨rfl, o⟩
        replace O := O.callp [] o
        clear o
        simp only [put, List.cons_append, List.nil_append] at O
        have cs := O.facts
        simp only [factsP, cellsP, roomP, foots_cons, foots_nil, foots_append, foot_pt, ptb, ptb_mapA, foot_mapA, factsP_mapA, foot_bun, List.append_nil, List.nil_append, List.cons_append, List.nodup_cons, List.nodup_nil, List.mem_cons, List.not_mem_nil, List.mem_singleton, List.forall_mem_cons, not_or, not_false_eq_true, and_true, true_and, or_false, false_or, forall_eq_or_imp, forall_eq, implies_true, Nat.zero_add, Nat.reduceAdd, and_assoc, ptb_listA, factsP_listA, Nat.mul_one, rdL] at cs
        go_wp2_with fail
        refine bodyPost_ret (v := .tuple #[.slice none 0 0, .bool false, .int .i64 0]) (by simp [results, Try.results19, go_sem]) rfl ⟨none, 0, A, c, rfl, Mem.listNil O⟩
    · have hv := HV2.out
      rw [if_neg hz] at hv
      have HV3 := Lib.hid hv
      clear HV2 hv
      have h10 : 10 ≤ fs := by omega
      have hfl : fs ≤ l.length := by omega
      have g1 : (fs == 0) = false := by simp; omega
      have g2 : ((fs : Int) = 0) = False := by simp; omega
      have g3 : ¬ ((l.length : Int) < fs) := by omega
      have g6 : ¬ fs = 0 := by omega
      have g7 : ¬ (l.length < fs) := by omega
      have g8 : decide ((l.length : Int) < fs) = false := by simp; omega
      have g9 : decide (l.length < fs) = false := by simp; omega
      have g4 : (fs : Int) ≤ c := by omega
      have g5 : (fs : Int) ≤ l.length := by omega
      have htl : (l.take fs).length = fs := by rw [List.length_take]; omega
      have HB2 := fun W hR => HB.out W hR (by omega) (by omega) (by omega)
      rw [htl] at HB2
      have HB3 := Lib.hid HB2
      clear HB HB2 htl hz hfs2
      go_enter Try.func19, Try.ntmps19
      have cs := O.facts
      simp only [factsP, cellsP, roomP, foots_cons, foots_nil, foots_append, foot_pt, ptb, ptb_mapA, foot_mapA, factsP_mapA, foot_bun, List.append_nil, List.nil_append, List.cons_append, List.nodup_cons, List.nodup_nil, List.mem_cons, List.not_mem_nil, List.mem_singleton, List.forall_mem_cons, not_or, not_false_eq_true, and_true, true_and, or_false, false_or, forall_eq_or_imp, forall_eq, implies_true, Nat.zero_add, Nat.reduceAdd, and_assoc, ptb_listA, factsP_listA, Nat.mul_one, rdL] at cs
      go_wp2_with fail
      first | apply Mem.atCall | apply Mem.atCode | apply Mem.atList
      case h => repeat' (first | (with_reducible exact O) | (with_reducible apply Mem.drew) | (with_reducible apply Mem.drewN) | (with_reducible apply Mem.ext) | (with_reducible apply Mem.alloc) | (with_reducible apply Mem.setCell) | (simp only [ptb, ptb_upd, foots_cons, List.mem_cons, World.size_alloc, size_ext, World.size_setCell, true_or, or_true, eq_self_iff_true]))
      case' k =>
        intro w1 O'
        (try clear O)
        have O := O'
        clear O'
        (first | simp only [sel, rst, List.cons_append, List.nil_append, World.size_alloc, size_ext, World.size_setCell, size_setMap, World.size_drew, size_drewN, upd, List.set_cons_zero, List.set_cons_succ, if_true, if_false, reduceIte, not_false_eq_true, ne_lt0, ne_lt1, ne_lt2, ne_lt3, ne_lt4, cs] at O | simp only [sel, rst, List.cons_append, List.nil_append, World.size_alloc, size_ext, World.size_setCell, size_setMap, World.size_drew, size_drewN, upd, List.set_cons_zero, List.set_cons_succ, if_true, if_false, reduceIte, not_false_eq_true, ne_lt0, ne_lt1, ne_lt2, ne_lt3, ne_lt4] at O | skip)
        (try clear cs)
        (try clear v1)
        (try clear v2)
        (try clear v3)
      refine (CF.out _ (Mem.rd (c := c) O (by simp))).mono ?_
      rintro e w2 ⟨rfl, o⟩
      replace O := O.callp [] o
      clear o
      simp only [put, List.cons_append, List.nil_append] at O
      have cs := O.facts
      simp only [factsP, cellsP, roomP, foots_cons, foots_nil, foots_append, foot_pt, ptb, ptb_mapA, foot_mapA, factsP_mapA, foot_bun, List.append_nil, List.nil_append, List.cons_append, List.nodup_cons, List.nodup_nil, List.mem_cons, List.not_mem_nil, List.mem_singleton, List.forall_mem_cons, not_or, not_false_eq_true, and_true, true_and, or_false, false_or, forall_eq_or_imp, forall_eq, implies_true, Nat.zero_add, Nat.reduceAdd, and_assoc, ptb_listA, factsP_listA, Nat.mul_one, rdL] at cs
      go_wp2_with fail
      first | apply Mem.atCall | apply Mem.atCode | apply Mem.atList
      case h => repeat' (first | (with_reducible exact O) | (with_reducible apply Mem.drew) | (with_reducible apply Mem.drewN) | (with_reducible apply Mem.ext) | (with_reducible apply Mem.alloc) | (with_reducible apply Mem.setCell) | (simp only [ptb, ptb_upd, foots_cons, List.mem_cons, World.size_alloc, size_ext, World.size_setCell, true_or, or_true, eq_self_iff_true]))
      case' k =>
        intro w3 O'
        (try clear O)
        have O := O'
        clear O'
        (first | simp only [sel, rst, List.cons_append, List.nil_append, World.size_alloc, size_ext, World.size_setCell, size_setMap, World.size_drew, size_drewN, upd, List.set_cons_zero, List.set_cons_succ, if_true, if_false, reduceIte, not_false_eq_true, ne_lt0, ne_lt1, ne_lt2, ne_lt3, ne_lt4, cs] at O | simp only [sel, rst, List.cons_append, List.nil_append, World.size_alloc, size_ext, World.size_setCell, size_setMap, World.size_drew, size_drewN, upd, List.set_cons_zero, List.set_cons_succ, if_true, if_false, reduceIte, not_false_eq_true, ne_lt0, ne_lt1, ne_lt2, ne_lt3, ne_lt4] at O | skip)
        (try clear cs)
        (try clear v1)
        (try clear v2)
        (try clear v3)
      refine (HB3.out _ ((Mem.rd (c := c) O (by simp)).take fs)).mono ?_
      rintro e w4 ⟨B, d, rfl, o⟩
      replace O := O.callp [] o
      clear o
      simp only [put, List.cons_append, List.nil_append] at O
      obtain ⟨bo, be⟩ := bd
      simp only at O HV3
      by_cases hb : be ≠ 0
      · have hv := HV3.out
        rw [if_pos hb] at hv
        subst hv
        have hb2 : (be == 0) = false := by simpa using hb
        have hb3 : ¬ (be = 0) := hb
        clear HV3 hb HB3 CF
        have cs := O.facts
        simp only [factsP, cellsP, roomP, foots_cons, foots_nil, foots_append, foot_pt, ptb, ptb_mapA, foot_mapA, factsP_mapA, foot_bun, List.append_nil, List.nil_append, List.cons_append, List.nodup_cons, List.nodup_nil, List.mem_cons, List.not_mem_nil, List.mem_singleton, List.forall_mem_cons, not_or, not_false_eq_true, and_true, true_and, or_false, false_or, forall_eq_or_imp, forall_eq, implies_true, Nat.zero_add, Nat.reduceAdd, and_assoc, ptb_listA, factsP_listA, Nat.mul_one, rdL] at cs
        go_wp2_with fail
        refine bodyPost_ret (v := .tuple #[.slice none 0 0, .bool false, .int .i64 be]) (by simp [results, Try.results19, go_sem]) rfl ⟨none, 0, rfl, A, c, Mem.listNil (O.sel [false, true, true])⟩
      · have hb0 : be = 0 := by simpa using hb
        subst hb0
        have hv := HV3.out
        rw [if_neg hb] at hv
        subst hv
        have hR := Mem.rd (c := c) O (A := A) (l := l) (by simp)
        have hA2 : ∃ A2, (if c = fs then A else A.map (fun a => a.add fs)) = A2 ∧ Rd w4 A2 (l.drop fs) ∧ (A2 = none → c - fs = 0) := by
          obtain ⟨b0, off0, rfl, hb0⟩ := hR.addr (by omega)
          by_cases hcf : c = fs
          · refine ⟨_, rfl, ?_, fun hx => by rw [if_pos hcf] at hx; simp at hx⟩
            rw [List.drop_eq_nil_of_le (by omega)]
            exact Rd.nil
          · refine ⟨_, rfl, ?_, fun hx => by rw [if_neg hcf] at hx; simp at hx⟩
            rw [if_neg hcf]
            simp only [Option.map_some, add_none]
            exact hR.drop fs
        obtain ⟨A2, hA2, hR2, hn2⟩ := hA2
        have hdl : (l.drop fs).length = l.length - fs := by simp
        have CC := Lib.hid (fun W hR => fr_Clone W A2 (c - fs) (l.drop fs) hR (by rw [hdl]; omega) hn2)
        rw [hdl] at CC
        have HDL := Lib.hid hdl
        have HA2 := Lib.hid hA2
        have HR2 := Lib.hid hR2
        clear hR hdl hA2 hR2 hn2 HB3 CF HV3 hb
        have hcase : (c = fs ∧ A = A2) ∨ (¬ c = fs ∧ A.map (fun a => a.add fs) = A2) := by
          have := HA2.out
          by_cases hcf : c = fs
          · rw [if_pos hcf] at this; exact .inl ⟨hcf, this⟩
          · rw [if_neg hcf] at this; exact .inr ⟨hcf, this⟩
        have HX := Lib.hid hcase
        clear hcase HA2
        rcases HX.out with ⟨hcf, hAA⟩ | ⟨hcf, hAA⟩
        · subst hcf
          have HAA := Lib.hid hAA
          clear hAA HX
          have hdn : l.drop c = [] := List.drop_eq_nil_of_le hc
          have HDN := Lib.hid hdn
          clear hdn CC
          have cs := O.facts
          simp only [factsP, cellsP, roomP, foots_cons, foots_nil, foots_append, foot_pt, ptb, ptb_mapA, foot_mapA, factsP_mapA, foot_bun, List.append_nil, List.nil_append, List.cons_append, List.nodup_cons, List.nodup_nil, List.mem_cons, List.not_mem_nil, List.mem_singleton, List.forall_mem_cons, not_or, not_false_eq_true, and_true, true_and, or_false, false_or, forall_eq_or_imp, forall_eq, implies_true, Nat.zero_add, Nat.reduceAdd, and_assoc, ptb_listA, factsP_listA, Nat.mul_one, rdL] at cs
          go_wp2_with fail
          first | apply Mem.atCall | apply Mem.atCode | apply Mem.atList
          case h => repeat' (first | (with_reducible exact O) | (with_reducible apply Mem.drew) | (with_reducible apply Mem.drewN) | (with_reducible apply Mem.ext) | (with_reducible apply Mem.alloc) | (with_reducible apply Mem.setCell) | (simp only [ptb, ptb_upd, foots_cons, List.mem_cons, World.size_alloc, size_ext, World.size_setCell, true_or, or_true, eq_self_iff_true]))
          case' k =>
            intro w5 O'
            (try clear O)
            have O := O'
            clear O'
            (first | simp only [sel, rst, List.cons_append, List.nil_append, World.size_alloc, size_ext, World.size_setCell, size_setMap, World.size_drew, size_drewN, upd, List.set_cons_zero, List.set_cons_succ, if_true, if_false, reduceIte, not_false_eq_true, ne_lt0, ne_lt1, ne_lt2, ne_lt3, ne_lt4, cs] at O | simp only [sel, rst, List.cons_append, List.nil_append, World.size_alloc, size_ext, World.size_setCell, size_setMap, World.size_drew, size_drewN, upd, List.set_cons_zero, List.set_cons_succ, if_true, if_false, reduceIte, not_false_eq_true, ne_lt0, ne_lt1, ne_lt2, ne_lt3, ne_lt4] at O | skip)
            (try clear cs)
            (try clear v1)
            (try clear v2)
            (try clear v3)
          refine (fr_Clone _ A 0 [] Rd.nil (by simp) (fun _ => rfl)).mono ?_
          rintro e w6 ⟨A3, c3, rfl, o⟩
          replace O := O.callp [] o
          simp only [put, List.append_nil, List.cons_append, List.nil_append] at O
          clear o
          simp only [List.length_nil]
          have cs := O.facts
          simp only [factsP, cellsP, roomP, foots_cons, foots_nil, foots_append, foot_pt, ptb, ptb_mapA, foot_mapA, factsP_mapA, foot_bun, List.append_nil, List.nil_append, List.cons_append, List.nodup_cons, List.nodup_nil, List.mem_cons, List.not_mem_nil, List.mem_singleton, List.forall_mem_cons, not_or, not_false_eq_true, and_true, true_and, or_false, false_or, forall_eq_or_imp, forall_eq, implies_true, Nat.zero_add, Nat.reduceAdd, and_assoc, ptb_listA, factsP_listA, Nat.mul_one, rdL] at cs
          go_wp2_with fail
          refine bodyPost_ret (v := .tuple #[(.slice B (bo.getD []).length d), .bool true, .int .i64 0]) (by simp [results, Try.results19, go_sem]) rfl ⟨B, d, rfl, A3, c3, ?_⟩
          rw [HDN.out]
          simp only [rdL, List.length_nil]
          have O2 := (O.front [false, false, true]).setCell (b := pb) (j := 0) (v := .slice A3 0 c3) (by simp [sel, ptb])
          simp only [sel, rst, List.cons_append, List.nil_append, upd, if_true, List.set_cons_zero] at O2
          exact (O2.front [false, false, true]).sel [true, true, true]
        · have HCF := Lib.hid hcf
          clear HX
          obtain ⟨b0, off0, rfl, hb0⟩ := (Mem.rd (c := c) O (A := A) (l := l) (by simp)).addr (by omega)
          simp only [Option.map_some, add_none] at hAA
          subst hAA
          have cs := O.facts
          simp only [factsP, cellsP, roomP, foots_cons, foots_nil, foots_append, foot_pt, ptb, ptb_mapA, foot_mapA, factsP_mapA, foot_bun, List.append_nil, List.nil_append, List.cons_append, List.nodup_cons, List.nodup_nil, List.mem_cons, List.not_mem_nil, List.mem_singleton, List.forall_mem_cons, not_or, not_false_eq_true, and_true, true_and, or_false, false_or, forall_eq_or_imp, forall_eq, implies_true, Nat.zero_add, Nat.reduceAdd, and_assoc, ptb_listA, factsP_listA, Nat.mul_one, rdL] at cs
          go_wp2_with fail
          first | apply Mem.atCall | apply Mem.atCode | apply Mem.atList
          case h => repeat' (first | (with_reducible exact O) | (with_reducible apply Mem.drew) | (with_reducible apply Mem.drewN) | (with_reducible apply Mem.ext) | (with_reducible apply Mem.alloc) | (with_reducible apply Mem.setCell) | (simp only [ptb, ptb_upd, foots_cons, List.mem_cons, World.size_alloc, size_ext, World.size_setCell, true_or, or_true, eq_self_iff_true]))
          case' k =>
            intro w5 O'
            (try clear O)
            have O := O'
            clear O'
            (first | simp only [sel, rst, List.cons_append, List.nil_append, World.size_alloc, size_ext, World.size_setCell, size_setMap, World.size_drew, size_drewN, upd, List.set_cons_zero, List.set_cons_succ, if_true, if_false, reduceIte, not_false_eq_true, ne_lt0, ne_lt1, ne_lt2, ne_lt3, ne_lt4, cs] at O | simp only [sel, rst, List.cons_append, List.nil_append, World.size_alloc, size_ext, World.size_setCell, size_setMap, World.size_drew, size_drewN, upd, List.set_cons_zero, List.set_cons_succ, if_true, if_false, reduceIte, not_false_eq_true, ne_lt0, ne_lt1, ne_lt2, ne_lt3, ne_lt4] at O | skip)
            (try clear cs)
            (try clear v1)
            (try clear v2)
            (try clear v3)
          have hRD : Rd w5 (some ⟨b0, off0 + fs, none⟩) (l.drop fs) := (Mem.rd (c := c) O (A := some ⟨b0, off0, none⟩) (l := l) (by simp)).drop fs
          refine (CC.out _ hRD).mono ?_
          rintro e w6 ⟨A3, c3, rfl, o⟩
          replace O := O.callp [] o
          simp only [put, List.append_nil, List.cons_append, List.nil_append] at O
          clear o
          have cs := O.facts
          simp only [factsP, cellsP, roomP, foots_cons, foots_nil, foots_append, foot_pt, ptb, ptb_mapA, foot_mapA, factsP_mapA, foot_bun, List.append_nil, List.nil_append, List.cons_append, List.nodup_cons, List.nodup_nil, List.mem_cons, List.not_mem_nil, List.mem_singleton, List.forall_mem_cons, not_or, not_false_eq_true, and_true, true_and, or_false, false_or, forall_eq_or_imp, forall_eq, implies_true, Nat.zero_add, Nat.reduceAdd, and_assoc, ptb_listA, factsP_listA, Nat.mul_one, rdL] at cs
          go_wp2_with fail
          refine bodyPost_ret (v := .tuple #[.slice B (bo.getD []).length d, .bool true, .int .i64 0]) (by simp [results, Try.results19, go_sem]) rfl ⟨B, d, rfl, A3, c3, ?_⟩
          simp only [rdL, HDL.out]
          have O2 := (O.front [false, false, true]).setCell (b := pb) (j := 0) (v := .slice A3 (l.length - fs) c3) (by simp [sel, ptb])
          simp only [sel, rst, List.cons_append, List.nil_append, upd, if_true, List.set_cons_zero] at O2
          exact (O2.front [false, false, true]).sel [true, true, true]
end Go.Proofs.Ytomcahmgmmbmmaa
