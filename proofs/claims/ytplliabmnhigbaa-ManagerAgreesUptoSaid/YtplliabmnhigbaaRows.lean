/-
  No cell of these rows narrows 'for every input' (looked for: loops, veiled, ifaces, maps, wideKeys, modest, calm, conditions, laid).
  DERIVED. THE GIVEN ROWS OF THIS SEAT. 4 by the template 'for every input the law returns true; each argument reads behind the call as it read before'; 0 by the template 'total and deterministic' (their statements: YtplliabmnhigbaaTotals.lean).
  GIVEN WITH THE SEED: the statements are not yours to turn. If you find one false, say at which input.
  Laid BY PROGRAM, IN A SANDBOX (cutbox-rows.mjs): the forced cells as the released guide's own fill.sh prints them over the translation 58ed78b18ab58e0b… (all of the seat's roots in one cut). By AI agents, Wed Nov 11 2026. No macro, syntax, notation, axiom, sorry.
-/
import Derived.Test.YtplliabmnhigbaaChecked
import GoSem.Claim
import GoSem.ClaimJoined
import GoSem.ClaimMapViews
import Derived.JoinedTies
import Derived.KernelRfl
namespace Go.Proofs.Ytplliabmnhigbaa
/- THE CELL 'sum', in the pinned program and in every row, IS THE sha256 OF THE DUMP (.gsa) THAT YtplliabmnhigbaaProg.lean LOADS. Nothing in Lean hashes anything: it is a label: what it is worth is what the hold of that sum in a sandbox is worth. -/
noncomputable def Try.pinned : Pinned := { name := "ytplliabmnhigbaa", sum := "58ed78b18ab58e0b49be2677bbaba7cb58af9bde4e15e3aab0a314618f569ce7", checked := Try.checked }
namespace Rows
def none {H : Type} : Left H := { results := [], args := [] }

/-- 'tontinelaw19.ManagerOrder': WHATEVER THE INPUT: true; the input reads as it did. -/
def managerOrderSpec : ChangeSpec := { name := "managerOrder", fn := fun _ => fun
  | [d1, d2, d3] => { results := [.lit (.bool true)], args := [d1, d2, d3] }
  | _ => none }
def managerOrderRow : OpenClaim := { program := "ytplliabmnhigbaa", sum := "58ed78b18ab58e0b49be2677bbaba7cb58af9bde4e15e3aab0a314618f569ce7", func := "tontine/tontinelaw19.ManagerOrder", spec := "managerOrder", unfollowed := true, recurses := true, plainKeys := false, apart := false }
def ManagerOrderSaid : Prop := managerOrderRow.holds Try.pinned (OpenSpec.ofChange managerOrderSpec)

/-- ITS FALSE NEIGHBOUR: 'it returns false'. Refute it at one input. -/
def managerOrderWrong : ChangeSpec := { name := "managerOrder", fn := fun _ => fun
  | [d1, d2, d3] => { results := [.lit (.bool false)], args := [d1, d2, d3] }
  | _ => none }
def ManagerOrderWrongFalsely : Prop := managerOrderRow.holds Try.pinned (OpenSpec.ofChange managerOrderWrong)

/-- 'tontinelaw19.ManagerPlays': WHATEVER THE INPUT: true; the input reads as it did. -/
def managerPlaysSpec : ChangeSpec := { name := "managerPlays", fn := fun _ => fun
  | [d1, d2] => { results := [.lit (.bool true)], args := [d1, d2] }
  | _ => none }
def managerPlaysRow : OpenClaim := { program := "ytplliabmnhigbaa", sum := "58ed78b18ab58e0b49be2677bbaba7cb58af9bde4e15e3aab0a314618f569ce7", func := "tontine/tontinelaw19.ManagerPlays", spec := "managerPlays", unfollowed := true, recurses := true, plainKeys := false, apart := false }
def ManagerPlaysSaid : Prop := managerPlaysRow.holds Try.pinned (OpenSpec.ofChange managerPlaysSpec)

/-- ITS FALSE NEIGHBOUR: 'it returns false'. Refute it at one input. -/
def managerPlaysWrong : ChangeSpec := { name := "managerPlays", fn := fun _ => fun
  | [d1, d2] => { results := [.lit (.bool false)], args := [d1, d2] }
  | _ => none }
def ManagerPlaysWrongFalsely : Prop := managerPlaysRow.holds Try.pinned (OpenSpec.ofChange managerPlaysWrong)

/-- 'tontinelaw19.ManagerNil': WHATEVER THE INPUT: true; the input reads as it did. -/
def managerNilSpec : ChangeSpec := { name := "managerNil", fn := fun _ => fun
  | [d1, d2] => { results := [.lit (.bool true)], args := [d1, d2] }
  | _ => none }
def managerNilRow : OpenClaim := { program := "ytplliabmnhigbaa", sum := "58ed78b18ab58e0b49be2677bbaba7cb58af9bde4e15e3aab0a314618f569ce7", func := "tontine/tontinelaw19.ManagerNil", spec := "managerNil", unfollowed := true, recurses := true, plainKeys := false, apart := false }
def ManagerNilSaid : Prop := managerNilRow.holds Try.pinned (OpenSpec.ofChange managerNilSpec)

/-- ITS FALSE NEIGHBOUR: 'it returns false'. Refute it at one input. -/
def managerNilWrong : ChangeSpec := { name := "managerNil", fn := fun _ => fun
  | [d1, d2] => { results := [.lit (.bool false)], args := [d1, d2] }
  | _ => none }
def ManagerNilWrongFalsely : Prop := managerNilRow.holds Try.pinned (OpenSpec.ofChange managerNilWrong)

/-- 'tontinelaw19.ManagerAgrees': WHATEVER THE INPUT: true; the input reads as it did. -/
def managerAgreesSpec : ChangeSpec := { name := "managerAgrees", fn := fun _ => fun
  | [d1, d2] => { results := [.lit (.bool true)], args := [d1, d2] }
  | _ => none }
def managerAgreesRow : OpenClaim := { program := "ytplliabmnhigbaa", sum := "58ed78b18ab58e0b49be2677bbaba7cb58af9bde4e15e3aab0a314618f569ce7", func := "tontine/tontinelaw19.ManagerAgrees", spec := "managerAgrees", unfollowed := true, recurses := true, plainKeys := false, apart := false }
def ManagerAgreesSaid : Prop := managerAgreesRow.holds Try.pinned (OpenSpec.ofChange managerAgreesSpec)

/-- ITS FALSE NEIGHBOUR: 'it returns false'. Refute it at one input. -/
def managerAgreesWrong : ChangeSpec := { name := "managerAgrees", fn := fun _ => fun
  | [d1, d2] => { results := [.lit (.bool false)], args := [d1, d2] }
  | _ => none }
def ManagerAgreesWrongFalsely : Prop := managerAgreesRow.holds Try.pinned (OpenSpec.ofChange managerAgreesWrong)

/- THE SECOND FORM. 'bulk': how many values and letters a reading holds, each counted each time it is reached (what is shared counts as often as it is met; a slice's spare places count too). A statement '..UptoSaid' is the law's where the arguments, and the package variables that the reading takes, are together of bulk at most 1048576: NARROWER than '..Said'. Prove '..Said' where nothing that the law and all that it calls make is longer than what came in: it says more and counts as full. Else prove '..UptoSaid'. A law counts once. -/
mutual
def uptoBulk {H : Type} : DataW H → Nat
  | .lit (.string bytes) => bytes.length + 1
  | .lit _ => 1
  | .nil => 1
  | .ptr d => uptoBulk d + 1
  | .slice elems spare => uptoBulkAll elems + uptoBulkAll spare + 1
  | .agg parts => uptoBulkAll parts + 1
  | .iface _ d => uptoBulk d + 1
  | .map entries => uptoBulkEntries entries + 1
  | .held _ => 1
def uptoBulkAll {H : Type} : List (DataW H) → Nat
  | [] => 0
  | d :: r => uptoBulk d + uptoBulkAll r
def uptoBulkEntries {H : Type} : List (Lit × DataW H) → Nat
  | [] => 0
  | x :: r => uptoBulkEntry x + uptoBulkEntries r
def uptoBulkEntry {H : Type} : Lit × DataW H → Nat
  | (.string bytes, d) => bytes.length + uptoBulk d + 1
  | (_, d) => uptoBulk d + 1
 end
def uptoSmall : (H : Type) → List (DataW H) → Bool := fun _ ds => decide (uptoBulkAll ds ≤ 1048576)
def OpenSpec.upto (s : _root_.Go.ChangeSpec) : _root_.Go.OpenSpec := { _root_.Go.OpenSpec.ofChange s with cond := some uptoSmall }

/-- 'tontinelaw19.ManagerOrder', WHERE WHAT IT READS IS OF BULK AT MOST 1048576: true; the input reads as it did. -/
def managerOrderUptoRow : OpenClaim := { program := "ytplliabmnhigbaa", sum := "58ed78b18ab58e0b49be2677bbaba7cb58af9bde4e15e3aab0a314618f569ce7", func := "tontine/tontinelaw19.ManagerOrder", spec := "managerOrder", unfollowed := true, recurses := true, plainKeys := false, apart := false, narrowed := true }
def ManagerOrderUptoSaid : Prop := managerOrderUptoRow.holds Try.pinned (OpenSpec.upto managerOrderSpec)

/-- 'tontinelaw19.ManagerPlays', WHERE WHAT IT READS IS OF BULK AT MOST 1048576: true; the input reads as it did. -/
def managerPlaysUptoRow : OpenClaim := { program := "ytplliabmnhigbaa", sum := "58ed78b18ab58e0b49be2677bbaba7cb58af9bde4e15e3aab0a314618f569ce7", func := "tontine/tontinelaw19.ManagerPlays", spec := "managerPlays", unfollowed := true, recurses := true, plainKeys := false, apart := false, narrowed := true }
def ManagerPlaysUptoSaid : Prop := managerPlaysUptoRow.holds Try.pinned (OpenSpec.upto managerPlaysSpec)

/-- 'tontinelaw19.ManagerNil', WHERE WHAT IT READS IS OF BULK AT MOST 1048576: true; the input reads as it did. -/
def managerNilUptoRow : OpenClaim := { program := "ytplliabmnhigbaa", sum := "58ed78b18ab58e0b49be2677bbaba7cb58af9bde4e15e3aab0a314618f569ce7", func := "tontine/tontinelaw19.ManagerNil", spec := "managerNil", unfollowed := true, recurses := true, plainKeys := false, apart := false, narrowed := true }
def ManagerNilUptoSaid : Prop := managerNilUptoRow.holds Try.pinned (OpenSpec.upto managerNilSpec)

/-- 'tontinelaw19.ManagerAgrees', WHERE WHAT IT READS IS OF BULK AT MOST 1048576: true; the input reads as it did. -/
def managerAgreesUptoRow : OpenClaim := { program := "ytplliabmnhigbaa", sum := "58ed78b18ab58e0b49be2677bbaba7cb58af9bde4e15e3aab0a314618f569ce7", func := "tontine/tontinelaw19.ManagerAgrees", spec := "managerAgrees", unfollowed := true, recurses := true, plainKeys := false, apart := false, narrowed := true }
def ManagerAgreesUptoSaid : Prop := managerAgreesUptoRow.holds Try.pinned (OpenSpec.upto managerAgreesSpec)

end Rows
end Go.Proofs.Ytplliabmnhigbaa
