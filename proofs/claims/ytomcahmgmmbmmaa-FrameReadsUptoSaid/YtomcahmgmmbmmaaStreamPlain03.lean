/- PLAIN LAW: a stream of frames, in pieces. No program in sight. -/
import Derived.Test.YtomcahmgmmbmmaaBackPlain03
import Derived.Test.YtomcahmgmmbmmaaReader03
set_option linter.unusedVariables false
set_option linter.unusedSimpArgs false
namespace Go.Proofs.Ytomcahmgmmbmmaa
open Go.Tk
def streamP (bs : List (List UInt8)) : List UInt8 := bs.flatMap wrapP
theorem streamP_cons (b : List UInt8) (bs : List (List UInt8)) : streamP (b :: bs) = wrapP b ++ streamP bs := by simp [streamP]
theorem bodyP_wrap (l : List UInt8) (hl : l.length ≤ 65536) : bodyP (wrapP l) = (some l, 0) := by
  obtain ⟨h1, h2, h3, h4, h5, h6, h7⟩ := wrap_parts l hl
  unfold bodyP
  rw [h4, h5, h7, if_pos rfl]
theorem app_get {h r X : List UInt8} (he : h ++ r = X) {i : Nat} (hi : i < h.length) : h[i]? = X[i]? := by
  rw [← he, List.getElem?_append_left hi]
/-- what a reader tells of the beginning of a stream -/
theorem next_stream (h rest b : List UInt8) (bs : List (List UInt8)) (hb : b.length ≤ 65536) (he : h ++ rest = streamP (b :: bs)) :
    ((wrapP b).length ≤ h.length → nextP h = (b, true, 0, h.drop (wrapP b).length) ∧ h.drop (wrapP b).length ++ rest = streamP bs) ∧ (h.length < (wrapP b).length → nextP h = ([], false, 0, h)) := by
  rw [streamP_cons] at he
  obtain ⟨w1, w2, w3, w4, w5, w6, w7⟩ := wrap_parts b hb
  have hg : ∀ i, i < h.length → i < (wrapP b).length → h[i]? = (wrapP b)[i]? := fun i h1 h2 => by
    rw [app_get he h1, List.getElem?_append_left h2]
  have hd0 : 1 ≤ h.length → h.getD 0 0 = 84 := fun hl => by rw [getD_eq h (wrapP b) 0 (hg 0 (by omega) (by omega)), w2]
  have hd1 : 2 ≤ h.length → h.getD 1 0 = 78 := fun hl => by rw [getD_eq h (wrapP b) 1 (hg 1 (by omega) (by omega)), w3]
  have hm : ¬ ((1 ≤ h.length ∧ h.getD 0 0 ≠ 84) ∨ (2 ≤ h.length ∧ h.getD 1 0 ≠ 78)) := by
    rintro (⟨h1, h2⟩ | ⟨h1, h2⟩)
    · exact h2 (hd0 h1)
    · exact h2 (hd1 h1)
  by_cases h6 : h.length < 6
  · have hf : faultP h = (0, 0) := by
      unfold faultP
      rw [if_neg hm, if_pos h6]
    refine ⟨fun hl => by omega, fun _ => ?_⟩
    unfold nextP
    rw [hf]
    simp
  · have hn : num4 (h.drop 2) = b.length := by
      rw [← w6]
      exact num4_congr (fun i hi => by rw [List.getElem?_drop, List.getElem?_drop]; exact hg _ (by omega) (by omega))
    have hf : faultP h = (b.length + 10, 0) := by
      unfold faultP
      rw [if_neg hm, if_neg h6, hn, if_neg (by omega)]
    refine ⟨fun hl => ?_, fun hl => ?_⟩
    · have ht : h.take (b.length + 10) = wrapP b := by
        rw [← w1]
        apply List.ext_getElem?
        intro i
        rw [List.getElem?_take]
        split
        · exact hg i (by omega) (by omega)
        · rw [List.getElem?_eq_none (by omega)]
      refine ⟨?_, ?_⟩
      · unfold nextP
        rw [hf]
        simp only [ne_eq, not_true_eq_false, if_false]
        rw [if_neg (by omega), ht, bodyP_wrap b hb, w1]
        simp
      · have hh : h = wrapP b ++ h.drop (wrapP b).length := by
          rw [← ht, List.length_take, Nat.min_eq_left (by omega), List.take_append_drop]
        rw [hh, List.append_assoc] at he
        have := List.append_cancel_left he
        rw [← this]
    · unfold nextP
      rw [hf]
      simp only [ne_eq, not_true_eq_false, if_false]
      rw [if_pos (by omega)]
theorem next_nil : nextP [] = ([], false, 0, []) := by decide +kernel
/-- the state of the reading: which bodies are still to come, how far the stream was fed, what is held -/
structure Str (bs : List (List UInt8)) (told at_ : Nat) (held : List UInt8) : Prop where
  le : told ≤ bs.length
  fed : at_ ≤ (streamP bs).length
  eq : held ++ (streamP bs).drop at_ = streamP (bs.drop told)
theorem streamP_drop_le (bs : List (List UInt8)) (k : Nat) : (streamP (bs.drop k)).length ≤ (streamP bs).length := by
  have e : streamP bs = streamP (bs.take k) ++ streamP (bs.drop k) := by
    unfold streamP
    rw [← List.flatMap_append, List.take_append_drop]
  rw [e]
  simp
theorem Str.zero (bs : List (List UInt8)) : Str bs 0 0 [] := ⟨by omega, by omega, by simp⟩
theorem Str.room {bs : List (List UInt8)} {told at_ : Nat} {held : List UInt8} (h : Str bs told at_ held) : held.length + ((streamP bs).length - at_) ≤ (streamP bs).length := by
  have := congrArg List.length h.eq
  rw [List.length_append, List.length_drop] at this
  have := streamP_drop_le bs told
  omega
theorem Str.feed {bs : List (List UInt8)} {told at_ : Nat} {held : List UInt8} (h : Str bs told at_ held) (sz : Nat) (hs : at_ + sz ≤ (streamP bs).length) : Str bs told (at_ + sz) (held ++ ((streamP bs).drop at_).take sz) := by
  refine ⟨h.le, hs, ?_⟩
  rw [← h.eq, List.append_assoc, ← List.drop_drop, List.take_append_drop]
/-- a reader's next answer: a body, or no more for now -/
theorem Str.next {bs : List (List UInt8)} {told at_ : Nat} {held : List UInt8} (h : Str bs told at_ held) (hb : ∀ b ∈ bs, b.length ≤ 65536) :
    (∃ b, bs[told]? = some b ∧ (wrapP b).length ≤ held.length ∧ nextP held = (b, true, 0, held.drop (wrapP b).length) ∧ Str bs (told + 1) at_ (held.drop (wrapP b).length)) ∨
    (nextP held = ([], false, 0, held) ∧ ((∀ b, bs[told]? = some b → held.length < (wrapP b).length) ∧ (told = bs.length → held = []))) := by
  by_cases ht : told < bs.length
  · have hd : bs.drop told = bs[told] :: bs.drop (told + 1) := List.drop_eq_getElem_cons ht
    have hbl := hb _ (List.getElem_mem ht)
    have he := h.eq
    rw [hd] at he
    obtain ⟨h1, h2⟩ := next_stream _ _ _ _ hbl he
    rcases Nat.lt_or_ge held.length (wrapP bs[told]).length with hl | hl
    · refine .inr ⟨h2 hl, fun b hb' => ?_, fun e => by omega⟩
      rw [List.getElem?_eq_getElem ht] at hb'
      injection hb' with hb'
      rw [← hb']
      exact hl
    · obtain ⟨h3, h4⟩ := h1 hl
      exact .inl ⟨_, List.getElem?_eq_getElem ht, hl, h3, ⟨by omega, h.fed, h4⟩⟩
  · have hte : told = bs.length := by have := h.le; omega
    have he := h.eq
    rw [hte, List.drop_length] at he
    have hh : held = [] := (List.append_eq_nil_iff.1 he).1
    rw [hh]
    exact .inr ⟨next_nil, fun b hb' => by rw [hte, List.getElem?_eq_none (Nat.le_refl _)] at hb'; simp at hb', fun _ => rfl⟩
/-- at the end all is told -/
theorem Str.end_ {bs : List (List UInt8)} {told : Nat} {held : List UInt8} (h : Str bs told (streamP bs).length held) (hs : ∀ b, bs[told]? = some b → held.length < (wrapP b).length) : told = bs.length ∧ held = [] := by
  have he := h.eq
  rw [List.drop_length, List.append_nil] at he
  by_cases ht : told < bs.length
  · have hd : bs.drop told = bs[told] :: bs.drop (told + 1) := List.drop_eq_getElem_cons ht
    rw [hd, streamP_cons] at he
    have := hs _ (List.getElem?_eq_getElem ht)
    rw [he, List.length_append] at this
    omega
  · have hte : told = bs.length := by have := h.le; omega
    rw [hte, List.drop_length] at he
    exact ⟨hte, he⟩
end Go.Proofs.Ytomcahmgmmbmmaa
