/- WALKS: proposer and learner, and the document's, each as one part: what every call comes to. -/
import Derived.Test.YtkhpikjmhamppaaPlaysPlain11
set_option linter.unusedVariables false
set_option linter.unusedSimpArgs false
namespace Go.Proofs.Ytkhpikjmhamppaa
open Go.RowKit Go.Tk

def rpA (pb : Nat) (A : Option Addr) (c : Nat) (A2 : Option Addr) (c2 : Nat) (q : RP) : Asn := bun (rpL pb A c A2 c2 q)
theorem factsP_rpA {w : World} {L : List Asn} {pb c c2 : Nat} {A A2 : Option Addr} {q : RP} : factsP w (rpA pb A c A2 c2 q :: L) = factsP w L := rfl
theorem ptb_rpA {L : List Asn} {pb c c2 : Nat} {A A2 : Option Addr} {q : RP} : ptb (rpA pb A c A2 c2 q :: L) = ptb L := rfl
theorem factsP_rlA {w : World} {L : List Asn} {lb c : Nat} {A : Option Addr} {r : RL} : factsP w (rlA lb A c r :: L) = factsP w L := rfl
theorem ptb_rlA {L : List Asn} {lb c : Nat} {A : Option Addr} {r : RL} : ptb (rlA lb A c r :: L) = ptb L := rfl
/-- the cells of a bundle, for the walk -/
theorem bun_facts {w0 w : World} {F : List Nat} {L : List Asn} (l : List Asn) (h : Mem w0 F w L) (hm : bun l ∈ L) : factsP w l := facts_of l (h.hold _ hm) (fun b hb => h.lt b (mem_foots hm hb))
theorem call0 {w w' : World} {l : List Asn} (h : Pre w l) (hm : Mem w [] w' []) : Mem w (foots l) w' l := by
  have := h.call [] hm
  simpa [Tk.sel, rst] using this
section
variable (w : World)
theorem pA_Promise (pb : Nat) (mo : Option Nat) (p : Prop11) (f : Int) (b : Ballot) (a : Acc) (h : Pre w [propA pb mo p]) (hmo : mo = none → p.b.r = 0) (hn : p.n ≤ 9) :
    Calls Try.prog 12 #[.pointer (some ⟨pb, 0, none⟩), .int .i64 f, b.val, a.val] w (fun e w' => e = .returned (.tuple #[.string (promise11 p f b a).1, .bool (promise11 p f b a).2.1]) ∧ Mem w (foots [propA pb mo p]) w' [propA pb mo (promise11 p f b a).2.2]) := by
  by_cases hno : p.b.r = 0 ∨ b ≠ p.b ∨ f < 0 ∨ p.n ≤ f
  · have hv : promise11 p f b a = (.empty, false, p) := by
      unfold promise11
      rw [if_pos]
      rcases hno with h | h | h | h
      · exact .inl h
      · exact .inr (.inl h)
      · exact .inr (.inr (.inl h))
      · exact .inr (.inr (.inr (.inl h)))
    rw [hv]
    exact (pA_Promise_no w pb mo p f b a h hno).mono fun _ _ ⟨he, hm⟩ => ⟨he, call0 h hm⟩
  · simp only [not_or, Classical.not_not] at hno
    obtain ⟨h1, h2, h3, h4⟩ := hno
    cases mo with
    | none => exact absurd (hmo rfl) h1
    | some mb =>
      subst h2
      by_cases hd : (mget p.prom f).getD false = true
      · have hv : promise11 p f p.b a = (.empty, false, p) := by
          unfold promise11
          rw [if_pos (.inr (.inr (.inr (.inr hd))))]
        rw [hv]
        exact (pA_Promise_dup w pb mb p f a h h1 (by omega) (by omega) hn hd).mono fun _ _ ⟨he, hm⟩ => ⟨he, call0 h hm⟩
      · exact pA_Promise_yes w pb mb p f a h h1 (by omega) (by omega) hn (by simpa using hd)
theorem pA_Begin_any (pb : Nat) (mo : Option Nat) (p : Prop11) (round : Int) (v : ByteArray) (h : Pre w [propA pb mo p]) (hp : 0 ≤ p.node ∧ p.node ≤ 255) (hr : 0 ≤ round) (hmo : mo = none → p.b.r = 0) :
    Calls Try.prog 11 #[.pointer (some ⟨pb, 0, none⟩), .int .u32 round, .string v] w (fun e w' => e = .returned (.tuple #[(begin11 p round v).1.val, .int .i64 (begin11 p round v).2.1]) ∧
      ∃ mo', Mem w (foots [propA pb mo p]) w' [propA pb mo' ((begin11 p round v).2.2.getD p)] ∧ (mo' = none → ((begin11 p round v).2.2.getD p).b.r = 0)) := by
  by_cases hn : round = 0 ∨ round ≤ p.b.r
  · have hv : begin11 p round v = (noB, if round = 0 then 1 else 111, none) := by
      unfold begin11
      by_cases h0 : round = 0
      · simp [h0]
      · simp [h0, hn.resolve_left h0]
    rw [hv]
    exact (pA_Begin_no w pb mo p round v h hr hn).mono fun _ _ ⟨he, hm⟩ => ⟨he, mo, call0 h hm, hmo⟩
  · simp only [not_or] at hn
    have hv : begin11 p round v = (⟨round, p.node⟩, 0, some ⟨p.node, p.n, ⟨round, p.node⟩, [], noA, v⟩) := by
      unfold begin11
      rw [if_neg hn.1, if_neg hn.2]
    rw [hv]
    exact (pA_Begin w pb mo p round v h hp hn.1 hn.2).mono fun _ _ ⟨he, mb, hm⟩ => ⟨he, some mb, hm, fun h => by simp at h⟩
def rbegin (q : RP) (round : Int) (v : ByteArray) : RP := if round = 0 ∨ round ≤ q.b.r then q else ⟨q.node, q.n, ⟨round, q.node⟩, v, [], []⟩
theorem PR.begin_any {p : Prop11} {q : RP} (h : PR p q) (round : Int) (v : ByteArray) : PR ((begin11 p round v).2.2.getD p) (rbegin q round v) := by
  unfold begin11 rbegin
  rw [h.b]
  by_cases h0 : round = 0
  · simp only [h0, if_true, true_or, Option.getD_none]; exact h
  · by_cases h1 : round ≤ p.b.r
    · simp only [h0, h1, if_true, if_false, or_true, Option.getD_none]; exact h
    · simp only [h0, h1, if_false, or_self, Option.getD_some]; exact h.began round v
theorem rpA_Begin (pb : Nat) (A : Option Addr) (c : Nat) (A2 : Option Addr) (c2 : Nat) (p : Prop11) (q : RP) (hpq : PR p q) (round : Int) (v : ByteArray) (h : Pre w [rpA pb A c A2 c2 q]) (hp : 0 ≤ p.node ∧ p.node ≤ 255) (hr : 0 ≤ round) :
    Calls Try.prog 18 #[.pointer (some ⟨pb, 0, none⟩), .int .u32 round, .string v] w (fun e w' => e = .returned (.tuple #[(begin11 p round v).1.val, .int .i64 (begin11 p round v).2.1]) ∧
      ∃ A' c' A2' c2', Mem w (foots [rpA pb A c A2 c2 q]) w' [rpA pb A' c' A2' c2' (rbegin q round v)]) := by
  have hb := hpq.b
  by_cases hn : round = 0 ∨ round ≤ p.b.r
  · have hv : begin11 p round v = (noB, if round = 0 then 1 else 111, none) := by
      unfold begin11
      by_cases h0 : round = 0
      · simp [h0]
      · simp [h0, hn.resolve_left h0]
    have hv2 : rbegin q round v = q := by unfold rbegin; rw [hb, if_pos hn]
    rw [hv, hv2]
    exact (rp_Begin_no w pb A c A2 c2 q round v (pre_bun h) hr (by rw [hb]; exact hn)).mono fun _ _ ⟨he, hm⟩ => ⟨he, A, c, A2, c2, call0 h hm⟩
  · have hv2 : rbegin q round v = ⟨q.node, q.n, ⟨round, q.node⟩, v, [], []⟩ := by unfold rbegin; rw [hb, if_neg hn]
    simp only [not_or] at hn
    have hv : begin11 p round v = (⟨round, p.node⟩, 0, some ⟨p.node, p.n, ⟨round, p.node⟩, [], noA, v⟩) := by
      unfold begin11
      rw [if_neg hn.1, if_neg hn.2]
    rw [hv, hv2]
    exact (rp_Begin w pb A c A2 c2 q round v (pre_bun h) (by rw [hpq.node]; exact hp) hn.1 (by rw [hb]; exact hn.2)).mono fun _ _ ⟨he, hm⟩ => ⟨by rw [he, hpq.node]; rfl, none, 0, none, 0, mem_bun hm⟩
theorem rpA_Promise (pb : Nat) (A : Option Addr) (c : Nat) (A2 : Option Addr) (c2 : Nat) (p : Prop11) (q : RP) (hpq : PR p q) (hn : p.n ≤ 9) (f : Int) (b : Ballot) (a : Acc) (h : Pre w [rpA pb A c A2 c2 q]) :
    Calls Try.prog 19 #[.pointer (some ⟨pb, 0, none⟩), .int .i64 f, b.val, a.val] w (fun e w' => e = .returned (.tuple #[.string (promise11 p f b a).1, .bool (promise11 p f b a).2.1]) ∧
      ∃ A' c' A2' c2', Mem w (foots [rpA pb A c A2 c2 q]) w' [rpA pb A' c' A2' c2' (rpromise q f b a).2.2]) := by
  obtain ⟨e1, e2, e3⟩ := hpq.promise f b a
  rw [e1, e2]
  by_cases hno : q.b.r = 0 ∨ b ≠ q.b ∨ f < 0 ∨ q.n ≤ f
  · have hv : rpromise q f b a = (.empty, false, q) := by
      unfold rpromise
      rw [if_pos]
      rcases hno with h | h | h | h
      · exact .inl h
      · exact .inr (.inl h)
      · exact .inr (.inr (.inl h))
      · exact .inr (.inr (.inr (.inl h)))
    rw [hv]
    exact (rp_Promise_no w pb A c A2 c2 q f b a (pre_bun h) hno).mono fun _ _ ⟨he, hm⟩ => ⟨he, A, c, A2, c2, call0 h hm⟩
  · simp only [not_or, Classical.not_not] at hno
    obtain ⟨h1, h2, h3, h4⟩ := hno
    subst h2
    exact (rp_Promise w pb A c A2 c2 q f a (pre_bun h) h1 (by omega) (by omega) (by rw [hpq.n]; exact hn) (hpq.small hn) hpq.len).mono fun _ _ ⟨he, A', c', A2', c2', hm⟩ => ⟨he, A', c', A2', c2', mem_bun hm⟩
/-- what a learner of the document's comes to, of any number -/
def raccI (r : RL) (f : Int) (b : Ballot) (v : ByteArray) : ByteArray × Bool × RL := if r.is = true ∨ f < 0 ∨ (r.l.length : Int) ≤ f then (.empty, false, r) else raccepted r f.toNat b v
theorem LR.any {s : Learn11} {r : RL} (h : LR s r) (f : Int) (b : Ballot) (v : ByteArray) : (accepted11 s f b v).1 = (raccI r f b v).1 ∧ (accepted11 s f b v).2.1 = (raccI r f b v).2.1 ∧ LR (accepted11 s f b v).2.2 (raccI r f b v).2.2 := by
  have hn := h.n
  unfold raccI
  by_cases hc : r.is = true ∨ f < 0 ∨ (r.l.length : Int) ≤ f
  · rw [if_pos hc]
    unfold accepted11
    rw [if_pos]
    · exact ⟨rfl, rfl, h⟩
    · rcases hc with hc | hc | hc
      · exact .inl (h.is.trans hc)
      · exact .inr (.inl hc)
      · exact .inr (.inr (.inl (by omega)))
  · rw [if_neg hc]
    simp only [not_or] at hc
    obtain ⟨k, rfl⟩ := Int.eq_ofNat_of_zero_le (show 0 ≤ f by omega)
    rw [Int.toNat_natCast]
    exact h.accepted k b v (by rw [h.is]; simpa using hc.1) (by omega)
theorem lA_Accepted (lb mb : Nat) (l : Learn11) (f : Int) (b : Ballot) (v : ByteArray) (h : Pre w [learnA lb mb l]) (h3 : l.n ≤ 9) (hsz : l.said.length ≤ 9) :
    Calls Try.prog 15 #[.pointer (some ⟨lb, 0, none⟩), .int .i64 f, b.val, .string v] w (fun e w' => e = .returned (.tuple #[.string (accepted11 l f b v).1, .bool (accepted11 l f b v).2.1]) ∧ Mem w (foots [learnA lb mb l]) w' [learnA lb mb (accepted11 l f b v).2.2]) := by
  by_cases hno : l.is = true ∨ f < 0 ∨ l.n ≤ f
  · have hv : accepted11 l f b v = (.empty, false, l) := by
      unfold accepted11
      rw [if_pos]
      rcases hno with h | h | h
      · exact .inl h
      · exact .inr (.inl h)
      · exact .inr (.inr (.inl h))
    rw [hv]
    exact (lA_Accepted_no w lb mb l f b v h hno).mono fun _ _ ⟨he, hm⟩ => ⟨he, call0 h hm⟩
  · simp only [not_or] at hno
    exact lA_Accepted_yes w lb mb l f b v h (by simpa using hno.1) (by omega) (by omega) h3 hsz
theorem rlA_Accepted (lb : Nat) (A : Option Addr) (c : Nat) (s : Learn11) (r : RL) (hsr : LR s r) (hn : s.n ≤ 9) (f : Int) (b : Ballot) (v : ByteArray) (h : Pre w [rlA lb A c r]) :
    Calls Try.prog 20 #[.pointer (some ⟨lb, 0, none⟩), .int .i64 f, b.val, .string v] w (fun e w' => e = .returned (.tuple #[.string (accepted11 s f b v).1, .bool (accepted11 s f b v).2.1]) ∧ Mem w (foots [rlA lb A c r]) w' [rlA lb A c (raccI r f b v).2.2]) := by
  obtain ⟨e1, e2, e3⟩ := hsr.any f b v
  have hn2 := hsr.n
  rw [e1, e2]
  unfold raccI
  by_cases hc : r.is = true ∨ f < 0 ∨ (r.l.length : Int) ≤ f
  · rw [if_pos hc]
    exact (rl_Accepted_no w lb A c r f b v (pre_bun h) hc (by omega)).mono fun _ _ ⟨he, hm⟩ => ⟨he, call0 h hm⟩
  · rw [if_neg hc]
    simp only [not_or] at hc
    obtain ⟨k, rfl⟩ := Int.eq_ofNat_of_zero_le (show 0 ≤ f by omega)
    rw [Int.toNat_natCast]
    exact (rl_Accepted w lb A c r k b v (pre_bun h) (by simpa using hc.1) (by omega) (by omega)).mono fun _ _ ⟨he, hm⟩ => ⟨he, mem_bun hm⟩
end
end Go.Proofs.Ytkhpikjmhamppaa
