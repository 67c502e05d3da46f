/- WALKS: proposer and learner as one part, where they refuse or only tell. -/
import Derived.Test.YtkhpikjmhamppaaLive11
import Derived.Test.YtkhpikjmhamppaaRead11
set_option linter.unusedVariables false
set_option linter.unusedSimpArgs false
namespace Go.Proofs.Ytkhpikjmhamppaa
open Go.RowKit Go.Tk

section
variable (w : World)
theorem pA_Promise_dup (pb mb : Nat) (p : Prop11) (f : Int) (a : Acc) (h : Pre w [propA pb (some mb) p]) (h0 : ¬ p.b.r = 0) (h1 : 0 ≤ f) (h2 : f < p.n) (h3 : p.n ≤ 9) (hd : (mget p.prom f).getD false = true) :
    Calls Try.prog 12 #[.pointer (some ⟨pb, 0, none⟩), .int .i64 f, p.b.val, a.val] w (fun e w' => e = .returned (.tuple #[.string .empty, .bool false]) ∧ Mem w [] w' []) :=
  prop_Promise_dup w pb mb p f a (pre_bun h) h0 h1 h2 h3 hd
theorem pA_Promise_no (pb : Nat) (mo : Option Nat) (p : Prop11) (f : Int) (b : Ballot) (a : Acc) (h : Pre w [propA pb mo p]) (hn : p.b.r = 0 ∨ b ≠ p.b ∨ f < 0 ∨ p.n ≤ f) :
    Calls Try.prog 12 #[.pointer (some ⟨pb, 0, none⟩), .int .i64 f, b.val, a.val] w (fun e w' => e = .returned (.tuple #[.string .empty, .bool false]) ∧ Mem w [] w' []) :=
  prop_Promise_no w pb mo p f b a (pre_bun h) hn
theorem pA_Begin_no (pb : Nat) (mo : Option Nat) (p : Prop11) (round : Int) (v : ByteArray) (h : Pre w [propA pb mo p]) (hr : 0 ≤ round) (hn : round = 0 ∨ round ≤ p.b.r) :
    Calls Try.prog 11 #[.pointer (some ⟨pb, 0, none⟩), .int .u32 round, .string v] w (fun e w' => e = .returned (.tuple #[noB.val, .int .i64 (if round = 0 then 1 else 111)]) ∧ Mem w [] w' []) :=
  prop_Begin_no w pb mo p round v (pre_bun h) hr hn
theorem pA_Ballot (pb : Nat) (mo : Option Nat) (p : Prop11) (h : Pre w [propA pb mo p]) :
    Calls Try.prog 21 #[.pointer (some ⟨pb, 0, none⟩)] w (fun e w' => e = .returned (.tuple #[p.b.val, .bool (decide (0 < p.b.r))]) ∧ Mem w [] w' []) := prop_Ballot w pb mo p (pre_bun h)
theorem lA_Chosen (lb mb : Nat) (l : Learn11) (h : Pre w [learnA lb mb l]) : Calls Try.prog 16 #[.pointer (some ⟨lb, 0, none⟩)] w (fun e w' => e = .returned (.tuple #[.string l.chosen, .bool l.is]) ∧ Mem w [] w' []) := learn_Chosen w lb mb l (pre_bun h)
theorem lA_Accepted_no (lb mb : Nat) (l : Learn11) (f : Int) (b : Ballot) (v : ByteArray) (h : Pre w [learnA lb mb l]) (hn : l.is = true ∨ f < 0 ∨ l.n ≤ f) :
    Calls Try.prog 15 #[.pointer (some ⟨lb, 0, none⟩), .int .i64 f, b.val, .string v] w (fun e w' => e = .returned (.tuple #[.string .empty, .bool false]) ∧ Mem w [] w' []) := learn_Accepted_no w lb mb l f b v (pre_bun h) hn
end
end Go.Proofs.Ytkhpikjmhamppaa
