/- PLAIN: three buckets' entries, one behind the other, are a map in order. -/
import Derived.Test.YtomcekjhehceoaaOwnP20
set_option linter.unusedVariables false
set_option linter.unusedSimpArgs false
namespace Go.Proofs.Ytomcekjhehceoaa
open Go.RowKit Go.Tk
theorem num_first (s : ByteArray) (a : Nat) : ∀ k, byteAt s a * 256 ^ k ≤ num s a (k + 1) ∧ num s a (k + 1) < (byteAt s a + 1) * 256 ^ k
  | 0 => by simp [num]
  | k + 1 => by
    have ⟨h1, h2⟩ := num_first s a k
    have h3 := byteAt_lt s (a + (k + 1))
    have e : num s a (k + 1 + 1) = num s a (k + 1) * 256 + byteAt s (a + (k + 1)) := rfl
    rw [e, Nat.pow_succ, ← Nat.mul_assoc, ← Nat.mul_assoc]
    generalize byteAt s a * 256 ^ k = x at *
    generalize (byteAt s a + 1) * 256 ^ k = y at *
    omega
theorem bucket_byte (s : ByteArray) : bucketOf s = byteAt s 0 / 4 := by
  have ⟨h1, h2⟩ := num_first s 0 7
  unfold bucketOf posHi
  have e : num s 0 8 = num s 0 (7 + 1) := rfl
  rw [e]
  generalize num s 0 (7 + 1) = n at *
  generalize byteAt s 0 = b at *
  have e2 : (256 : Nat) ^ 7 = 72057594037927936 := by decide
  rw [e2] at h1 h2
  omega
theorem byte_head (s : ByteArray) : byteAt s 0 = (s.toList.head?.map UInt8.toNat).getD 0 := by
  rw [ByteArray.toList_eq]
  unfold byteAt
  obtain ⟨d⟩ := s
  obtain ⟨l⟩ := d
  cases l with
  | nil => rfl
  | cons x l =>
    have h : 0 < (ByteArray.mk ⟨x :: l⟩).size := by show 0 < (x :: l).length; simp
    rw [dif_pos h]
    rfl
theorem bk_lt {a b : ByteArray} (h : bucketOf a < bucketOf b) : ltK a b = true := by
  rw [bucket_byte, bucket_byte, byte_head, byte_head] at h
  unfold ltK
  generalize a.toList = x at *
  generalize b.toList = y at *
  cases y with
  | nil => simp at h
  | cons v y =>
    cases x with
    | nil => rfl
    | cons u x =>
      simp only [List.head?_cons, Option.map_some, Option.getD_some] at h
      have : u < v := by rw [UInt8.lt_iff_toNat_lt]; omega
      simp [Op.bytesLess, this]
def mOf (ps : List LogP) : List En := nowP ps 0 ++ nowP ps 1 ++ nowP ps 2
structure IsM (ps : List LogP) : Prop where
  ok : PsOk ps
  has : ∀ c : Int, hasP ps c = decide (0 ≤ c ∧ c ≤ 2)
theorem IsM.now {ps : List LogP} (h : IsM ps) {c : Int} (hc : 0 ≤ c ∧ c ≤ 2) : entsOk c (nowP ps c) = true := now_ok h.ok c (by rw [h.has]; simp [hc])
theorem IsM.bk {ps : List LogP} (h : IsM ps) {c : Int} (hc : 0 ≤ c ∧ c ≤ 2) {e : En} (he : e ∈ nowP ps c) : (bucketOf e.1 : Int) = c := ((entsOk_parts (h.now hc)).2.2 e he).2.2
theorem mo_rise {ps : List LogP} (h : IsM ps) : Rising (mOf ps) := by
  have r0 := (entsOk_parts (h.now (c := 0) (by decide))).2.1
  have r1 := (entsOk_parts (h.now (c := 1) (by decide))).2.1
  have r2 := (entsOk_parts (h.now (c := 2) (by decide))).2.1
  unfold mOf Rising at *
  refine List.pairwise_append.2 ⟨List.pairwise_append.2 ⟨r0, r1, fun a ha b hb => ?_⟩, r2, fun a ha b hb => ?_⟩
  · have e1 := h.bk (by decide) ha
    have e2 := h.bk (by decide) hb
    exact bk_lt (by omega)
  · have e2 := h.bk (by decide) hb
    rcases List.mem_append.1 ha with ha | ha
    · have e1 := h.bk (by decide) ha
      exact bk_lt (by omega)
    · have e1 := h.bk (by decide) ha
      exact bk_lt (by omega)
theorem mo_len {ps : List LogP} (h : IsM ps) : (mOf ps).length ≤ 24 := by
  have r0 := (entsOk_parts (h.now (c := 0) (by decide))).1
  have r1 := (entsOk_parts (h.now (c := 1) (by decide))).1
  have r2 := (entsOk_parts (h.now (c := 2) (by decide))).1
  unfold mOf
  simp only [List.length_append]
  omega
theorem mo_mid {ps : List LogP} (h : IsM ps) (k : ByteArray) (hk : hasP ps (bucketOf k) = true) : ∃ a c, (∀ e ∈ a, ltK e.1 k = true) ∧ (∀ e ∈ c, ltK k e.1 = true) ∧ mOf ps = a ++ nowP ps (bucketOf k) ++ c ∧ ∀ l, mOf (setNow ps (bucketOf k) l) = a ++ l ++ c := by
  have hb := hk
  rw [h.has] at hb
  simp only [decide_eq_true_eq] at hb
  have hs := fun l c => setNow_now ps (bucketOf k) c l hk
  have h0 : ∀ e ∈ nowP ps 0, (bucketOf e.1 : Int) = 0 := fun e he => h.bk (by decide) he
  have h1 : ∀ e ∈ nowP ps 1, (bucketOf e.1 : Int) = 1 := fun e he => h.bk (by decide) he
  have h2 : ∀ e ∈ nowP ps 2, (bucketOf e.1 : Int) = 2 := fun e he => h.bk (by decide) he
  have hc : (bucketOf k : Int) = 0 ∨ (bucketOf k : Int) = 1 ∨ (bucketOf k : Int) = 2 := by omega
  rcases hc with hc | hc | hc
  · refine ⟨[], nowP ps 1 ++ nowP ps 2, by simp, fun e he => ?_, ?_, fun l => ?_⟩
    · rcases List.mem_append.1 he with he | he
      · have := h1 e he; exact bk_lt (by omega)
      · have := h2 e he; exact bk_lt (by omega)
    · unfold mOf; rw [hc]; simp
    · unfold mOf; rw [hs, hs, hs, hc]; simp
  · refine ⟨nowP ps 0, nowP ps 2, fun e he => ?_, fun e he => ?_, ?_, fun l => ?_⟩
    · have := h0 e he; exact bk_lt (by omega)
    · have := h2 e he; exact bk_lt (by omega)
    · unfold mOf; rw [hc]
    · unfold mOf; rw [hs, hs, hs, hc]; simp
  · refine ⟨nowP ps 0 ++ nowP ps 1, [], fun e he => ?_, by simp, ?_, fun l => ?_⟩
    · rcases List.mem_append.1 he with he | he
      · have := h0 e he; exact bk_lt (by omega)
      · have := h1 e he; exact bk_lt (by omega)
    · unfold mOf; rw [hc]; simp
    · unfold mOf; rw [hs, hs, hs, hc]; simp
theorem mo_get {ps : List LogP} (h : IsM ps) {k : ByteArray} (hc : codeP false ps k .empty = 0) : (gotP false ps k).2 = isK k (mOf ps) ∧ (isK k (mOf ps) = true → (gotP false ps k).1 = getK k (mOf ps)) := by
  obtain ⟨a, c, ha, hb, hm, _⟩ := mo_mid h k (codeP_zero hc).2.2.2
  obtain ⟨_, d2, d3⟩ := delK_mid (k := k) (m := nowP ps (bucketOf k)) ha hb
  rw [hm, d2]
  unfold gotP
  cases hk : isK k (nowP ps (bucketOf k)) with
  | false => simp
  | true =>
    rw [hk, if_pos rfl] at d3
    rw [if_pos ⟨hc, rfl⟩]
    exact ⟨rfl, fun _ => d3.symm⟩
theorem mo_put {ps : List LogP} (h : IsM ps) {k v : ByteArray} (hp : (putS false ps k v).1 = 0) : mOf (putS false ps k v).2 = putK k v (mOf ps) := by
  obtain ⟨h1, h2, h3⟩ := put_code hp
  obtain ⟨a, c, ha, hb, hm, hs⟩ := mo_mid h k (codeP_zero h2).2.2.2
  rw [h3, hs, hm, putK_mid ha hb]
theorem mo_del {ps : List LogP} (h : IsM ps) {k : ByteArray} (hc : codeP false ps k .empty = 0) : (delS false ps k).1 = isK k (mOf ps) ∧ mOf (delS false ps k).2 = if isK k (mOf ps) = true then delK k (mOf ps) else mOf ps := by
  obtain ⟨a, c, ha, hb, hm, hs⟩ := mo_mid h k (codeP_zero hc).2.2.2
  obtain ⟨d1, d2, d3⟩ := delK_mid (k := k) (m := nowP ps (bucketOf k)) ha hb
  rw [hm, d2]
  unfold delS
  cases hk : isK k (nowP ps (bucketOf k)) with
  | false => simp [hm]
  | true =>
    rw [if_pos ⟨hc, rfl⟩, if_pos rfl, hs, d1]
    exact ⟨rfl, rfl⟩
theorem del_no {ps : List LogP} {k : ByteArray} (hc : codeP false ps k .empty ≠ 0) : (delS false ps k).2 = ps := by
  unfold delS
  rw [if_neg (fun x => hc x.1)]
theorem IsM.put {ps : List LogP} (h : IsM ps) (k v : ByteArray) : IsM (putS false ps k v).2 := by
  refine ⟨h.ok.put _ _ _, fun c => ?_⟩
  rw [← h.has]
  by_cases hp : (putS false ps k v).1 = 0
  · exact own_hasP hp c
  · rw [put_no hp]
theorem IsM.del {ps : List LogP} (h : IsM ps) (k : ByteArray) : IsM (delS false ps k).2 := by
  refine ⟨h.ok.del _ _, fun c => ?_⟩
  rw [← h.has]
  unfold delS
  split
  · exact setNow_has ..
  · rfl
def kLO : ByteArray := { data := #[0] }
def kHI : ByteArray := { data := #[11, 255] }
theorem lo_all {s : ByteArray} (h : mayKey s = true) : ltK s kLO = false := by
  unfold mayKey at h
  simp only [Bool.and_eq_true, decide_eq_true_eq] at h
  unfold ltK kLO
  rw [ByteArray.toList_eq, ByteArray.toList_eq]
  obtain ⟨d⟩ := s
  obtain ⟨l⟩ := d
  cases l with
  | nil => exact absurd h.1 (by show ¬ 1 ≤ ([] : List UInt8).length; simp)
  | cons x l =>
    show Op.bytesLess (x :: l) [0] = false
    have hx : ¬ x < 0 := by rw [UInt8.lt_iff_toNat_lt]; simp
    cases l <;> simp [Op.bytesLess, hx]
theorem mo_may {ps : List LogP} (h : IsM ps) {e : En} (he : e ∈ mOf ps) : mayKey e.1 = true := by
  unfold mOf at he
  rcases List.mem_append.1 he with he | he
  · rcases List.mem_append.1 he with he | he
    · exact ((entsOk_parts (h.now (by decide))).2.2 e he).1
    · exact ((entsOk_parts (h.now (by decide))).2.2 e he).1
  · exact ((entsOk_parts (h.now (by decide))).2.2 e he).1
theorem mo_scan {ps : List LogP} (h : IsM ps) : codeScan false ps kLO kHI = 0 ∧ (scanS false ps kLO kHI = mOf ps ∨ ∃ n e, (mOf ps).length = n + 1 ∧ (mOf ps)[n]? = some e ∧ ltK kHI e.1 = true) ∧ (scanS false ps kLO kHI).length ≤ 24 := by
  have b0 : bucketOf kLO = 0 := by rw [bucket_byte]; decide
  have b2 : bucketOf kHI = 2 := by rw [bucket_byte]; decide
  have m1 : mayKey kLO = true := by kernel_rfl
  have m2 : mayKey kHI = true := by kernel_rfl
  have lt : ltK kHI kLO = false := lo_all m2
  have hc : codeScan false ps kLO kHI = 0 := by
    unfold codeScan
    rw [b0, b2, m1, m2, lt]
    have : hasN ps 0 3 = true := by
      unfold hasN
      rw [List.all_eq_true]
      intro j hj
      have := List.mem_range.1 hj
      rw [h.has]
      simp only [decide_eq_true_eq]
      omega
    simp [this]
  have hs : scanS false ps kLO kHI = fltR kLO kHI (mOf ps) := by
    unfold scanS scanP
    rw [if_pos hc, b0, b2]
    show scanN ps kLO kHI 0 3 = _
    unfold mOf fltR
    rw [List.filter_append, List.filter_append]
    simp only [scanN, List.nil_append, fltR]
    rfl
  have hle : (scanS false ps kLO kHI).length ≤ 24 := by rw [hs]; exact Nat.le_trans (List.length_filter_le _ _) (mo_len h)
  refine ⟨hc, ?_, hle⟩
  rw [hs]
  have hr := mo_rise h
  have hm := fun e he => lo_all (mo_may h (e := e) he)
  generalize mOf ps = l at *
  by_cases ha : ∀ e ∈ l, ltK kHI e.1 = false
  · left
    unfold fltR
    rw [List.filter_eq_self]
    intro e he
    simp [inR, hm e he, ha e he]
  · right
    have hx : ∃ e ∈ l, ltK kHI e.1 = true := by
      apply Classical.byContradiction
      intro hn
      apply ha
      intro e he
      cases hh : ltK kHI e.1 with
      | false => rfl
      | true => exact absurd ⟨e, he, hh⟩ hn
    obtain ⟨e, he, hk⟩ := hx
    obtain ⟨i, hi⟩ := List.mem_iff_getElem?.1 he
    have hil := (List.getElem?_eq_some_iff.1 hi).1
    refine ⟨l.length - 1, l[l.length - 1], by omega, List.getElem?_eq_getElem (by omega), ?_⟩
    by_cases hie : i = l.length - 1
    · subst hie
      rw [(List.getElem?_eq_some_iff.1 hi).2]; exact hk
    · have := (List.pairwise_iff_getElem.1 hr) i (l.length - 1) hil (by omega) (by omega)
      rw [(List.getElem?_eq_some_iff.1 hi).2] at this
      exact ltK_trans hk this
/-- three buckets, learnt one after the other -/
theorem learn_more {ps : List LogP} {n : Nat} (hn : n < 3) (hp : PsOk ps) (hh : ∀ c : Int, hasP ps c = decide (0 ≤ c ∧ c < n)) (hl : ps.length = n) (x : ItemR) (hb : x.bucket = n) (hw : x.write = false) (hr : x.right = true) (hv : x.ver < 2147483647) (hz : zeros x.inc 4 ≤ 1) (hm : ∀ c : Int, nowP ps c = []) :
    (learnS false ps x []).1 = 0 ∧ PsOk (learnS false ps x []).2 ∧ (∀ c : Int, hasP (learnS false ps x []).2 c = decide (0 ≤ c ∧ c < (n + 1 : Nat))) ∧ (learnS false ps x []).2.length = n + 1 ∧ ∀ c : Int, nowP (learnS false ps x []).2 c = [] := by
  have hx : learnS false ps x [] = (0, ps ++ [⟨x.bucket, x.ver, x.inc, [], []⟩]) := by
    have e1 : learnBad x [] = false := by
      unfold learnBad
      rw [hw, hr]
      have : entsOk x.bucket [] = true := rfl
      simp only [this, Bool.and_true, Bool.not_true, Bool.or_self, Bool.false_or, Bool.not_eq_false', decide_eq_true_eq]
      omega
    have e2 : hasP ps x.bucket = false := by rw [hh, hb]; simp
    unfold learnS
    simp only [e1, e2, Bool.false_eq_true, if_false]
    rw [if_neg (by omega)]
  refine ⟨by rw [hx], hp.learn _ _ _, fun c => ?_, by rw [hx]; simp [hl], fun c => ?_⟩
  · rw [hx]
    show hasP (ps ++ [_]) c = _
    unfold hasP at *
    rw [List.any_append, hh]
    simp only [List.any_cons, List.any_nil, Bool.or_false, hb]
    rw [Bool.eq_iff_iff]
    simp only [Bool.or_eq_true, decide_eq_true_eq]
    omega
  · rw [hx]
    show nowP (ps ++ [_]) c = _
    have := hm c
    unfold nowP at *
    rw [List.find?_append]
    cases hf : ps.find? (fun p => decide (p.bucket = c)) with
    | some q => rw [hf] at this; simpa using this
    | none =>
      simp only [Option.none_or]
      rw [List.find?_cons]
      split <;> rfl
end Go.Proofs.Ytomcekjhehceoaa
