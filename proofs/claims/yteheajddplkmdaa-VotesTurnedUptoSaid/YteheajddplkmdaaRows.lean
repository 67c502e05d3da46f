/-
  No cell of these rows narrows 'for every input' (looked for: loops, veiled, ifaces, maps, wideKeys, modest, calm, conditions, laid).
  DERIVED. THE GIVEN ROWS OF THIS SEAT. 6 by the template 'for every input the law returns true; each argument reads behind the call as it read before'; 0 by the template 'total and deterministic' (their statements: YteheajddplkmdaaTotals.lean).
  GIVEN WITH THE SEED: the statements are not yours to turn. If you find one false, say at which input.
  Laid BY PROGRAM, IN A SANDBOX (cutbox-rows.mjs): the forced cells as the released guide's own fill.sh prints them over the translation 60d2ea46b79ff004… (all of the seat's roots in one cut). By AI agents, Wed Nov 11 2026. No macro, syntax, notation, axiom, sorry.
-/
import Derived.Test.YteheajddplkmdaaChecked
import GoSem.Claim
import GoSem.ClaimJoined
import GoSem.ClaimMapViews
import Derived.JoinedTies
import Derived.KernelRfl
namespace Go.Proofs.Yteheajddplkmdaa
/- THE CELL 'sum', in the pinned program and in every row, IS THE sha256 OF THE DUMP (.gsa) THAT YteheajddplkmdaaProg.lean LOADS. Nothing in Lean hashes anything: it is a label: what it is worth is what the hold of that sum in a sandbox is worth. -/
noncomputable def Try.pinned : Pinned := { name := "yteheajddplkmdaa", sum := "60d2ea46b79ff00420e62f69513fe18043e38e1d922c3fe5a8d674f5233994c7", checked := Try.checked }
namespace Rows
def none {H : Type} : Left H := { results := [], args := [] }

/-- 'tontinelaw18.VotesDecide': WHATEVER THE INPUT: true; the input reads as it did. -/
def votesDecideSpec : ChangeSpec := { name := "votesDecide", fn := fun _ => fun
  | [d1, d2] => { results := [.lit (.bool true)], args := [d1, d2] }
  | _ => none }
def votesDecideRow : OpenClaim := { program := "yteheajddplkmdaa", sum := "60d2ea46b79ff00420e62f69513fe18043e38e1d922c3fe5a8d674f5233994c7", func := "tontine/tontinelaw18.VotesDecide", spec := "votesDecide", apart := false }
def VotesDecideSaid : Prop := votesDecideRow.holds Try.pinned (OpenSpec.ofChange votesDecideSpec)

/-- ITS FALSE NEIGHBOUR: 'it returns false'. Refute it at one input. -/
def votesDecideWrong : ChangeSpec := { name := "votesDecide", fn := fun _ => fun
  | [d1, d2] => { results := [.lit (.bool false)], args := [d1, d2] }
  | _ => none }
def VotesDecideWrongFalsely : Prop := votesDecideRow.holds Try.pinned (OpenSpec.ofChange votesDecideWrong)

/-- 'tontinelaw18.VotesSure': WHATEVER THE INPUT: true; the input reads as it did. -/
def votesSureSpec : ChangeSpec := { name := "votesSure", fn := fun _ => fun
  | [d1, d2, d3] => { results := [.lit (.bool true)], args := [d1, d2, d3] }
  | _ => none }
def votesSureRow : OpenClaim := { program := "yteheajddplkmdaa", sum := "60d2ea46b79ff00420e62f69513fe18043e38e1d922c3fe5a8d674f5233994c7", func := "tontine/tontinelaw18.VotesSure", spec := "votesSure", apart := false }
def VotesSureSaid : Prop := votesSureRow.holds Try.pinned (OpenSpec.ofChange votesSureSpec)

/-- ITS FALSE NEIGHBOUR: 'it returns false'. Refute it at one input. -/
def votesSureWrong : ChangeSpec := { name := "votesSure", fn := fun _ => fun
  | [d1, d2, d3] => { results := [.lit (.bool false)], args := [d1, d2, d3] }
  | _ => none }
def VotesSureWrongFalsely : Prop := votesSureRow.holds Try.pinned (OpenSpec.ofChange votesSureWrong)

/-- 'tontinelaw18.VotesThree': WHATEVER THE INPUT: true; the input reads as it did. -/
def votesThreeSpec : ChangeSpec := { name := "votesThree", fn := fun _ => fun
  | [d] => { results := [.lit (.bool true)], args := [d] }
  | _ => none }
def votesThreeRow : OpenClaim := { program := "yteheajddplkmdaa", sum := "60d2ea46b79ff00420e62f69513fe18043e38e1d922c3fe5a8d674f5233994c7", func := "tontine/tontinelaw18.VotesThree", spec := "votesThree", apart := false }
def VotesThreeSaid : Prop := votesThreeRow.holds Try.pinned (OpenSpec.ofChange votesThreeSpec)

/-- ITS FALSE NEIGHBOUR: 'it returns false'. Refute it at one input. -/
def votesThreeWrong : ChangeSpec := { name := "votesThree", fn := fun _ => fun
  | [d] => { results := [.lit (.bool false)], args := [d] }
  | _ => none }
def VotesThreeWrongFalsely : Prop := votesThreeRow.holds Try.pinned (OpenSpec.ofChange votesThreeWrong)

/-- 'tontinelaw18.VotesTurned': WHATEVER THE INPUT: true; the input reads as it did. -/
def votesTurnedSpec : ChangeSpec := { name := "votesTurned", fn := fun _ => fun
  | [d1, d2, d3] => { results := [.lit (.bool true)], args := [d1, d2, d3] }
  | _ => none }
def votesTurnedRow : OpenClaim := { program := "yteheajddplkmdaa", sum := "60d2ea46b79ff00420e62f69513fe18043e38e1d922c3fe5a8d674f5233994c7", func := "tontine/tontinelaw18.VotesTurned", spec := "votesTurned", apart := false }
def VotesTurnedSaid : Prop := votesTurnedRow.holds Try.pinned (OpenSpec.ofChange votesTurnedSpec)

/-- ITS FALSE NEIGHBOUR: 'it returns false'. Refute it at one input. -/
def votesTurnedWrong : ChangeSpec := { name := "votesTurned", fn := fun _ => fun
  | [d1, d2, d3] => { results := [.lit (.bool false)], args := [d1, d2, d3] }
  | _ => none }
def VotesTurnedWrongFalsely : Prop := votesTurnedRow.holds Try.pinned (OpenSpec.ofChange votesTurnedWrong)

/-- 'tontinelaw18.VotesRights': WHATEVER THE INPUT: true; the input reads as it did. -/
def votesRightsSpec : ChangeSpec := { name := "votesRights", fn := fun _ => fun
  | [d1, d2, d3] => { results := [.lit (.bool true)], args := [d1, d2, d3] }
  | _ => none }
def votesRightsRow : OpenClaim := { program := "yteheajddplkmdaa", sum := "60d2ea46b79ff00420e62f69513fe18043e38e1d922c3fe5a8d674f5233994c7", func := "tontine/tontinelaw18.VotesRights", spec := "votesRights", apart := false }
def VotesRightsSaid : Prop := votesRightsRow.holds Try.pinned (OpenSpec.ofChange votesRightsSpec)

/-- ITS FALSE NEIGHBOUR: 'it returns false'. Refute it at one input. -/
def votesRightsWrong : ChangeSpec := { name := "votesRights", fn := fun _ => fun
  | [d1, d2, d3] => { results := [.lit (.bool false)], args := [d1, d2, d3] }
  | _ => none }
def VotesRightsWrongFalsely : Prop := votesRightsRow.holds Try.pinned (OpenSpec.ofChange votesRightsWrong)

/-- 'tontinelaw18.VotesTexts': WHATEVER THE INPUT: true; the input reads as it did. -/
def votesTextsSpec : ChangeSpec := { name := "votesTexts", fn := fun _ => fun
  | [d1, d2] => { results := [.lit (.bool true)], args := [d1, d2] }
  | _ => none }
def votesTextsRow : OpenClaim := { program := "yteheajddplkmdaa", sum := "60d2ea46b79ff00420e62f69513fe18043e38e1d922c3fe5a8d674f5233994c7", func := "tontine/tontinelaw18.VotesTexts", spec := "votesTexts", apart := false }
def VotesTextsSaid : Prop := votesTextsRow.holds Try.pinned (OpenSpec.ofChange votesTextsSpec)

/-- ITS FALSE NEIGHBOUR: 'it returns false'. Refute it at one input. -/
def votesTextsWrong : ChangeSpec := { name := "votesTexts", fn := fun _ => fun
  | [d1, d2] => { results := [.lit (.bool false)], args := [d1, d2] }
  | _ => none }
def VotesTextsWrongFalsely : Prop := votesTextsRow.holds Try.pinned (OpenSpec.ofChange votesTextsWrong)

/- THE SECOND FORM. 'bulk': how many values and letters a reading holds, each counted each time it is reached (what is shared counts as often as it is met; a slice's spare places count too). A statement '..UptoSaid' is the law's where the arguments, and the package variables that the reading takes, are together of bulk at most 1048576: NARROWER than '..Said'. Prove '..Said' where nothing that the law and all that it calls make is longer than what came in: it says more and counts as full. Else prove '..UptoSaid'. A law counts once. -/
mutual
def uptoBulk {H : Type} : DataW H → Nat
  | .lit (.string bytes) => bytes.length + 1
  | .lit _ => 1
  | .nil => 1
  | .ptr d => uptoBulk d + 1
  | .slice elems spare => uptoBulkAll elems + uptoBulkAll spare + 1
  | .agg parts => uptoBulkAll parts + 1
  | .iface _ d => uptoBulk d + 1
  | .map entries => uptoBulkEntries entries + 1
  | .held _ => 1
def uptoBulkAll {H : Type} : List (DataW H) → Nat
  | [] => 0
  | d :: r => uptoBulk d + uptoBulkAll r
def uptoBulkEntries {H : Type} : List (Lit × DataW H) → Nat
  | [] => 0
  | x :: r => uptoBulkEntry x + uptoBulkEntries r
def uptoBulkEntry {H : Type} : Lit × DataW H → Nat
  | (.string bytes, d) => bytes.length + uptoBulk d + 1
  | (_, d) => uptoBulk d + 1
 end
def uptoSmall : (H : Type) → List (DataW H) → Bool := fun _ ds => decide (uptoBulkAll ds ≤ 1048576)
def OpenSpec.upto (s : _root_.Go.ChangeSpec) : _root_.Go.OpenSpec := { _root_.Go.OpenSpec.ofChange s with cond := some uptoSmall }

/-- 'tontinelaw18.VotesDecide', WHERE WHAT IT READS IS OF BULK AT MOST 1048576: true; the input reads as it did. -/
def votesDecideUptoRow : OpenClaim := { program := "yteheajddplkmdaa", sum := "60d2ea46b79ff00420e62f69513fe18043e38e1d922c3fe5a8d674f5233994c7", func := "tontine/tontinelaw18.VotesDecide", spec := "votesDecide", apart := false, narrowed := true }
def VotesDecideUptoSaid : Prop := votesDecideUptoRow.holds Try.pinned (OpenSpec.upto votesDecideSpec)

/-- 'tontinelaw18.VotesSure', WHERE WHAT IT READS IS OF BULK AT MOST 1048576: true; the input reads as it did. -/
def votesSureUptoRow : OpenClaim := { program := "yteheajddplkmdaa", sum := "60d2ea46b79ff00420e62f69513fe18043e38e1d922c3fe5a8d674f5233994c7", func := "tontine/tontinelaw18.VotesSure", spec := "votesSure", apart := false, narrowed := true }
def VotesSureUptoSaid : Prop := votesSureUptoRow.holds Try.pinned (OpenSpec.upto votesSureSpec)

/-- 'tontinelaw18.VotesThree', WHERE WHAT IT READS IS OF BULK AT MOST 1048576: true; the input reads as it did. -/
def votesThreeUptoRow : OpenClaim := { program := "yteheajddplkmdaa", sum := "60d2ea46b79ff00420e62f69513fe18043e38e1d922c3fe5a8d674f5233994c7", func := "tontine/tontinelaw18.VotesThree", spec := "votesThree", apart := false, narrowed := true }
def VotesThreeUptoSaid : Prop := votesThreeUptoRow.holds Try.pinned (OpenSpec.upto votesThreeSpec)

/-- 'tontinelaw18.VotesTurned', WHERE WHAT IT READS IS OF BULK AT MOST 1048576: true; the input reads as it did. -/
def votesTurnedUptoRow : OpenClaim := { program := "yteheajddplkmdaa", sum := "60d2ea46b79ff00420e62f69513fe18043e38e1d922c3fe5a8d674f5233994c7", func := "tontine/tontinelaw18.VotesTurned", spec := "votesTurned", apart := false, narrowed := true }
def VotesTurnedUptoSaid : Prop := votesTurnedUptoRow.holds Try.pinned (OpenSpec.upto votesTurnedSpec)

/-- 'tontinelaw18.VotesRights', WHERE WHAT IT READS IS OF BULK AT MOST 1048576: true; the input reads as it did. -/
def votesRightsUptoRow : OpenClaim := { program := "yteheajddplkmdaa", sum := "60d2ea46b79ff00420e62f69513fe18043e38e1d922c3fe5a8d674f5233994c7", func := "tontine/tontinelaw18.VotesRights", spec := "votesRights", apart := false, narrowed := true }
def VotesRightsUptoSaid : Prop := votesRightsUptoRow.holds Try.pinned (OpenSpec.upto votesRightsSpec)

/-- 'tontinelaw18.VotesTexts', WHERE WHAT IT READS IS OF BULK AT MOST 1048576: true; the input reads as it did. -/
def votesTextsUptoRow : OpenClaim := { program := "yteheajddplkmdaa", sum := "60d2ea46b79ff00420e62f69513fe18043e38e1d922c3fe5a8d674f5233994c7", func := "tontine/tontinelaw18.VotesTexts", spec := "votesTexts", apart := false, narrowed := true }
def VotesTextsUptoSaid : Prop := votesTextsUptoRow.holds Try.pinned (OpenSpec.upto votesTextsSpec)

end Rows
end Go.Proofs.Yteheajddplkmdaa
