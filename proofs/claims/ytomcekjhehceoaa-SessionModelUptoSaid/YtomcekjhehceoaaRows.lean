/-
  No cell of these rows narrows 'for every input' (looked for: loops, veiled, ifaces, maps, wideKeys, modest, calm, conditions, laid).
  DERIVED. THE GIVEN ROWS OF THIS SEAT. 5 by the template 'for every input the law returns true; each argument reads behind the call as it read before'; 0 by the template 'total and deterministic' (their statements: YtomcekjhehceoaaTotals.lean).
  GIVEN WITH THE SEED: the statements are not yours to turn. If you find one false, say at which input.
  Laid BY PROGRAM, IN A SANDBOX (cutbox-rows.mjs): the forced cells as the released guide's own fill.sh prints them over the translation b38260629c0e0d46… (all of the seat's roots in one cut). By AI agents, Wed Nov 11 2026. No macro, syntax, notation, axiom, sorry.
-/
import Derived.Test.YtomcekjhehceoaaChecked
import GoSem.Claim
import GoSem.ClaimJoined
import GoSem.ClaimMapViews
import Derived.JoinedTies
import Derived.KernelRfl
namespace Go.Proofs.Ytomcekjhehceoaa
/- THE CELL 'sum', in the pinned program and in every row, IS THE sha256 OF THE DUMP (.gsa) THAT YtomcekjhehceoaaProg.lean LOADS. Nothing in Lean hashes anything: it is a label: what it is worth is what the hold of that sum in a sandbox is worth. -/
noncomputable def Try.pinned : Pinned := { name := "ytomcekjhehceoaa", sum := "b38260629c0e0d468e86a73f6ef1ec078531548b41ba4762e79be721449ac573", checked := Try.checked }
namespace Rows
def none {H : Type} : Left H := { results := [], args := [] }

/-- 'tontinelaw20.SessionRight': WHATEVER THE INPUT: true; the input reads as it did. -/
def sessionRightSpec : ChangeSpec := { name := "sessionRight", fn := fun _ => fun
  | [d] => { results := [.lit (.bool true)], args := [d] }
  | _ => none }
def sessionRightRow : OpenClaim := { program := "ytomcekjhehceoaa", sum := "b38260629c0e0d468e86a73f6ef1ec078531548b41ba4762e79be721449ac573", func := "tontine/tontinelaw20.SessionRight", spec := "sessionRight", inPlace := ["slices.overlaps[tontine/api.Entry]"], unfollowed := true, recurses := true, apart := false }
def SessionRightSaid : Prop := sessionRightRow.holds Try.pinned (OpenSpec.ofChange sessionRightSpec)

/-- ITS FALSE NEIGHBOUR: 'it returns false'. Refute it at one input. -/
def sessionRightWrong : ChangeSpec := { name := "sessionRight", fn := fun _ => fun
  | [d] => { results := [.lit (.bool false)], args := [d] }
  | _ => none }
def SessionRightWrongFalsely : Prop := sessionRightRow.holds Try.pinned (OpenSpec.ofChange sessionRightWrong)

/-- 'tontinelaw20.SessionOwn': WHATEVER THE INPUT: true; the input reads as it did. -/
def sessionOwnSpec : ChangeSpec := { name := "sessionOwn", fn := fun _ => fun
  | [d] => { results := [.lit (.bool true)], args := [d] }
  | _ => none }
def sessionOwnRow : OpenClaim := { program := "ytomcekjhehceoaa", sum := "b38260629c0e0d468e86a73f6ef1ec078531548b41ba4762e79be721449ac573", func := "tontine/tontinelaw20.SessionOwn", spec := "sessionOwn", inPlace := ["slices.overlaps[tontine/api.Entry]"], unfollowed := true, recurses := true, apart := false }
def SessionOwnSaid : Prop := sessionOwnRow.holds Try.pinned (OpenSpec.ofChange sessionOwnSpec)

/-- ITS FALSE NEIGHBOUR: 'it returns false'. Refute it at one input. -/
def sessionOwnWrong : ChangeSpec := { name := "sessionOwn", fn := fun _ => fun
  | [d] => { results := [.lit (.bool false)], args := [d] }
  | _ => none }
def SessionOwnWrongFalsely : Prop := sessionOwnRow.holds Try.pinned (OpenSpec.ofChange sessionOwnWrong)

/-- 'tontinelaw20.SessionModel': WHATEVER THE INPUT: true; the input reads as it did. -/
def sessionModelSpec : ChangeSpec := { name := "sessionModel", fn := fun _ => fun
  | [d] => { results := [.lit (.bool true)], args := [d] }
  | _ => none }
def sessionModelRow : OpenClaim := { program := "ytomcekjhehceoaa", sum := "b38260629c0e0d468e86a73f6ef1ec078531548b41ba4762e79be721449ac573", func := "tontine/tontinelaw20.SessionModel", spec := "sessionModel", inPlace := ["slices.overlaps[tontine/api.Entry]"], unfollowed := true, recurses := true, apart := false }
def SessionModelSaid : Prop := sessionModelRow.holds Try.pinned (OpenSpec.ofChange sessionModelSpec)

/-- ITS FALSE NEIGHBOUR: 'it returns false'. Refute it at one input. -/
def sessionModelWrong : ChangeSpec := { name := "sessionModel", fn := fun _ => fun
  | [d] => { results := [.lit (.bool false)], args := [d] }
  | _ => none }
def SessionModelWrongFalsely : Prop := sessionModelRow.holds Try.pinned (OpenSpec.ofChange sessionModelWrong)

/-- 'tontinelaw20.SessionNil': WHATEVER THE INPUT: true; the input reads as it did. -/
def sessionNilSpec : ChangeSpec := { name := "sessionNil", fn := fun _ => fun
  | [d1, d2] => { results := [.lit (.bool true)], args := [d1, d2] }
  | _ => none }
def sessionNilRow : OpenClaim := { program := "ytomcekjhehceoaa", sum := "b38260629c0e0d468e86a73f6ef1ec078531548b41ba4762e79be721449ac573", func := "tontine/tontinelaw20.SessionNil", spec := "sessionNil", inPlace := ["slices.overlaps[tontine/api.Entry]"], unfollowed := true, recurses := true, apart := false }
def SessionNilSaid : Prop := sessionNilRow.holds Try.pinned (OpenSpec.ofChange sessionNilSpec)

/-- ITS FALSE NEIGHBOUR: 'it returns false'. Refute it at one input. -/
def sessionNilWrong : ChangeSpec := { name := "sessionNil", fn := fun _ => fun
  | [d1, d2] => { results := [.lit (.bool false)], args := [d1, d2] }
  | _ => none }
def SessionNilWrongFalsely : Prop := sessionNilRow.holds Try.pinned (OpenSpec.ofChange sessionNilWrong)

/-- 'tontinelaw20.SessionClosed': WHATEVER THE INPUT: true; the input reads as it did. -/
def sessionClosedSpec : ChangeSpec := { name := "sessionClosed", fn := fun _ => fun
  | [d1, d2] => { results := [.lit (.bool true)], args := [d1, d2] }
  | _ => none }
def sessionClosedRow : OpenClaim := { program := "ytomcekjhehceoaa", sum := "b38260629c0e0d468e86a73f6ef1ec078531548b41ba4762e79be721449ac573", func := "tontine/tontinelaw20.SessionClosed", spec := "sessionClosed", inPlace := ["slices.overlaps[tontine/api.Entry]"], unfollowed := true, recurses := true, apart := false }
def SessionClosedSaid : Prop := sessionClosedRow.holds Try.pinned (OpenSpec.ofChange sessionClosedSpec)

/-- ITS FALSE NEIGHBOUR: 'it returns false'. Refute it at one input. -/
def sessionClosedWrong : ChangeSpec := { name := "sessionClosed", fn := fun _ => fun
  | [d1, d2] => { results := [.lit (.bool false)], args := [d1, d2] }
  | _ => none }
def SessionClosedWrongFalsely : Prop := sessionClosedRow.holds Try.pinned (OpenSpec.ofChange sessionClosedWrong)

/- THE SECOND FORM. 'bulk': how many values and letters a reading holds, each counted each time it is reached (what is shared counts as often as it is met; a slice's spare places count too). A statement '..UptoSaid' is the law's where the arguments, and the package variables that the reading takes, are together of bulk at most 1048576: NARROWER than '..Said'. Prove '..Said' where nothing that the law and all that it calls make is longer than what came in: it says more and counts as full. Else prove '..UptoSaid'. A law counts once. -/
mutual
def uptoBulk {H : Type} : DataW H → Nat
  | .lit (.string bytes) => bytes.length + 1
  | .lit _ => 1
  | .nil => 1
  | .ptr d => uptoBulk d + 1
  | .slice elems spare => uptoBulkAll elems + uptoBulkAll spare + 1
  | .agg parts => uptoBulkAll parts + 1
  | .iface _ d => uptoBulk d + 1
  | .map entries => uptoBulkEntries entries + 1
  | .held _ => 1
def uptoBulkAll {H : Type} : List (DataW H) → Nat
  | [] => 0
  | d :: r => uptoBulk d + uptoBulkAll r
def uptoBulkEntries {H : Type} : List (Lit × DataW H) → Nat
  | [] => 0
  | x :: r => uptoBulkEntry x + uptoBulkEntries r
def uptoBulkEntry {H : Type} : Lit × DataW H → Nat
  | (.string bytes, d) => bytes.length + uptoBulk d + 1
  | (_, d) => uptoBulk d + 1
 end
def uptoSmall : (H : Type) → List (DataW H) → Bool := fun _ ds => decide (uptoBulkAll ds ≤ 1048576)
def OpenSpec.upto (s : _root_.Go.ChangeSpec) : _root_.Go.OpenSpec := { _root_.Go.OpenSpec.ofChange s with cond := some uptoSmall }

/-- 'tontinelaw20.SessionRight', WHERE WHAT IT READS IS OF BULK AT MOST 1048576: true; the input reads as it did. -/
def sessionRightUptoRow : OpenClaim := { program := "ytomcekjhehceoaa", sum := "b38260629c0e0d468e86a73f6ef1ec078531548b41ba4762e79be721449ac573", func := "tontine/tontinelaw20.SessionRight", spec := "sessionRight", inPlace := ["slices.overlaps[tontine/api.Entry]"], unfollowed := true, recurses := true, apart := false, narrowed := true }
def SessionRightUptoSaid : Prop := sessionRightUptoRow.holds Try.pinned (OpenSpec.upto sessionRightSpec)

/-- 'tontinelaw20.SessionOwn', WHERE WHAT IT READS IS OF BULK AT MOST 1048576: true; the input reads as it did. -/
def sessionOwnUptoRow : OpenClaim := { program := "ytomcekjhehceoaa", sum := "b38260629c0e0d468e86a73f6ef1ec078531548b41ba4762e79be721449ac573", func := "tontine/tontinelaw20.SessionOwn", spec := "sessionOwn", inPlace := ["slices.overlaps[tontine/api.Entry]"], unfollowed := true, recurses := true, apart := false, narrowed := true }
def SessionOwnUptoSaid : Prop := sessionOwnUptoRow.holds Try.pinned (OpenSpec.upto sessionOwnSpec)

/-- 'tontinelaw20.SessionModel', WHERE WHAT IT READS IS OF BULK AT MOST 1048576: true; the input reads as it did. -/
def sessionModelUptoRow : OpenClaim := { program := "ytomcekjhehceoaa", sum := "b38260629c0e0d468e86a73f6ef1ec078531548b41ba4762e79be721449ac573", func := "tontine/tontinelaw20.SessionModel", spec := "sessionModel", inPlace := ["slices.overlaps[tontine/api.Entry]"], unfollowed := true, recurses := true, apart := false, narrowed := true }
def SessionModelUptoSaid : Prop := sessionModelUptoRow.holds Try.pinned (OpenSpec.upto sessionModelSpec)

/-- 'tontinelaw20.SessionNil', WHERE WHAT IT READS IS OF BULK AT MOST 1048576: true; the input reads as it did. -/
def sessionNilUptoRow : OpenClaim := { program := "ytomcekjhehceoaa", sum := "b38260629c0e0d468e86a73f6ef1ec078531548b41ba4762e79be721449ac573", func := "tontine/tontinelaw20.SessionNil", spec := "sessionNil", inPlace := ["slices.overlaps[tontine/api.Entry]"], unfollowed := true, recurses := true, apart := false, narrowed := true }
def SessionNilUptoSaid : Prop := sessionNilUptoRow.holds Try.pinned (OpenSpec.upto sessionNilSpec)

/-- 'tontinelaw20.SessionClosed', WHERE WHAT IT READS IS OF BULK AT MOST 1048576: true; the input reads as it did. -/
def sessionClosedUptoRow : OpenClaim := { program := "ytomcekjhehceoaa", sum := "b38260629c0e0d468e86a73f6ef1ec078531548b41ba4762e79be721449ac573", func := "tontine/tontinelaw20.SessionClosed", spec := "sessionClosed", inPlace := ["slices.overlaps[tontine/api.Entry]"], unfollowed := true, recurses := true, apart := false, narrowed := true }
def SessionClosedUptoSaid : Prop := sessionClosedUptoRow.holds Try.pinned (OpenSpec.upto sessionClosedSpec)

end Rows
end Go.Proofs.Ytomcekjhehceoaa
