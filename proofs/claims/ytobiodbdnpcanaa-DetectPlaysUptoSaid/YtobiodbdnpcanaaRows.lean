/-
  No cell of these rows narrows 'for every input' (looked for: loops, veiled, ifaces, maps, wideKeys, modest, calm, conditions, laid).
  DERIVED. THE GIVEN ROWS OF THIS SEAT. 4 by the template 'for every input the law returns true; each argument reads behind the call as it read before'; 0 by the template 'total and deterministic' (their statements: YtobiodbdnpcanaaTotals.lean).
  GIVEN WITH THE SEED: the statements are not yours to turn. If you find one false, say at which input.
  Laid BY PROGRAM, IN A SANDBOX (cutbox-rows.mjs): the forced cells as the released guide's own fill.sh prints them over the translation 45bd451c683723c1… (all of the seat's roots in one cut). By AI agents, Wed Nov 11 2026. No macro, syntax, notation, axiom, sorry.
-/
import Derived.Test.YtobiodbdnpcanaaChecked
import GoSem.Claim
import GoSem.ClaimJoined
import GoSem.ClaimMapViews
import Derived.JoinedTies
import Derived.KernelRfl
namespace Go.Proofs.Ytobiodbdnpcanaa
/- THE CELL 'sum', in the pinned program and in every row, IS THE sha256 OF THE DUMP (.gsa) THAT YtobiodbdnpcanaaProg.lean LOADS. Nothing in Lean hashes anything: it is a label: what it is worth is what the hold of that sum in a sandbox is worth. -/
noncomputable def Try.pinned : Pinned := { name := "ytobiodbdnpcanaa", sum := "45bd451c683723c159df9b419fb59eafa01ed62d6e54226a1df734a14306ade0", checked := Try.checked }
namespace Rows
def none {H : Type} : Left H := { results := [], args := [] }

/-- 'tontinelaw09.DetectLearns': WHATEVER THE INPUT: true; the input reads as it did. -/
def detectLearnsSpec : ChangeSpec := { name := "detectLearns", fn := fun _ => fun
  | [d1, d2] => { results := [.lit (.bool true)], args := [d1, d2] }
  | _ => none }
def detectLearnsRow : OpenClaim := { program := "ytobiodbdnpcanaa", sum := "45bd451c683723c159df9b419fb59eafa01ed62d6e54226a1df734a14306ade0", func := "tontine/tontinelaw09.DetectLearns", spec := "detectLearns", unfollowed := true, recurses := true, apart := false }
def DetectLearnsSaid : Prop := detectLearnsRow.holds Try.pinned (OpenSpec.ofChange detectLearnsSpec)

/-- ITS FALSE NEIGHBOUR: 'it returns false'. Refute it at one input. -/
def detectLearnsWrong : ChangeSpec := { name := "detectLearns", fn := fun _ => fun
  | [d1, d2] => { results := [.lit (.bool false)], args := [d1, d2] }
  | _ => none }
def DetectLearnsWrongFalsely : Prop := detectLearnsRow.holds Try.pinned (OpenSpec.ofChange detectLearnsWrong)

/-- 'tontinelaw09.DetectPlays': WHATEVER THE INPUT: true; the input reads as it did. -/
def detectPlaysSpec : ChangeSpec := { name := "detectPlays", fn := fun _ => fun
  | [d1, d2] => { results := [.lit (.bool true)], args := [d1, d2] }
  | _ => none }
def detectPlaysRow : OpenClaim := { program := "ytobiodbdnpcanaa", sum := "45bd451c683723c159df9b419fb59eafa01ed62d6e54226a1df734a14306ade0", func := "tontine/tontinelaw09.DetectPlays", spec := "detectPlays", unfollowed := true, recurses := true, apart := false }
def DetectPlaysSaid : Prop := detectPlaysRow.holds Try.pinned (OpenSpec.ofChange detectPlaysSpec)

/-- ITS FALSE NEIGHBOUR: 'it returns false'. Refute it at one input. -/
def detectPlaysWrong : ChangeSpec := { name := "detectPlays", fn := fun _ => fun
  | [d1, d2] => { results := [.lit (.bool false)], args := [d1, d2] }
  | _ => none }
def DetectPlaysWrongFalsely : Prop := detectPlaysRow.holds Try.pinned (OpenSpec.ofChange detectPlaysWrong)

/-- 'tontinelaw09.DetectTells': WHATEVER THE INPUT: true; the input reads as it did. -/
def detectTellsSpec : ChangeSpec := { name := "detectTells", fn := fun _ => fun
  | [d] => { results := [.lit (.bool true)], args := [d] }
  | _ => none }
def detectTellsRow : OpenClaim := { program := "ytobiodbdnpcanaa", sum := "45bd451c683723c159df9b419fb59eafa01ed62d6e54226a1df734a14306ade0", func := "tontine/tontinelaw09.DetectTells", spec := "detectTells", unfollowed := true, recurses := true, apart := false }
def DetectTellsSaid : Prop := detectTellsRow.holds Try.pinned (OpenSpec.ofChange detectTellsSpec)

/-- ITS FALSE NEIGHBOUR: 'it returns false'. Refute it at one input. -/
def detectTellsWrong : ChangeSpec := { name := "detectTells", fn := fun _ => fun
  | [d] => { results := [.lit (.bool false)], args := [d] }
  | _ => none }
def DetectTellsWrongFalsely : Prop := detectTellsRow.holds Try.pinned (OpenSpec.ofChange detectTellsWrong)

/-- 'tontinelaw09.DetectNil': WHATEVER THE INPUT: true; the input reads as it did. -/
def detectNilSpec : ChangeSpec := { name := "detectNil", fn := fun _ => fun
  | [d1, d2] => { results := [.lit (.bool true)], args := [d1, d2] }
  | _ => none }
def detectNilRow : OpenClaim := { program := "ytobiodbdnpcanaa", sum := "45bd451c683723c159df9b419fb59eafa01ed62d6e54226a1df734a14306ade0", func := "tontine/tontinelaw09.DetectNil", spec := "detectNil", unfollowed := true, recurses := true, apart := false }
def DetectNilSaid : Prop := detectNilRow.holds Try.pinned (OpenSpec.ofChange detectNilSpec)

/-- ITS FALSE NEIGHBOUR: 'it returns false'. Refute it at one input. -/
def detectNilWrong : ChangeSpec := { name := "detectNil", fn := fun _ => fun
  | [d1, d2] => { results := [.lit (.bool false)], args := [d1, d2] }
  | _ => none }
def DetectNilWrongFalsely : Prop := detectNilRow.holds Try.pinned (OpenSpec.ofChange detectNilWrong)

/- THE SECOND FORM. 'bulk': how many values and letters a reading holds, each counted each time it is reached (what is shared counts as often as it is met; a slice's spare places count too). A statement '..UptoSaid' is the law's where the arguments, and the package variables that the reading takes, are together of bulk at most 1048576: NARROWER than '..Said'. Prove '..Said' where nothing that the law and all that it calls make is longer than what came in: it says more and counts as full. Else prove '..UptoSaid'. A law counts once. -/
mutual
def uptoBulk {H : Type} : DataW H → Nat
  | .lit (.string bytes) => bytes.length + 1
  | .lit _ => 1
  | .nil => 1
  | .ptr d => uptoBulk d + 1
  | .slice elems spare => uptoBulkAll elems + uptoBulkAll spare + 1
  | .agg parts => uptoBulkAll parts + 1
  | .iface _ d => uptoBulk d + 1
  | .map entries => uptoBulkEntries entries + 1
  | .held _ => 1
def uptoBulkAll {H : Type} : List (DataW H) → Nat
  | [] => 0
  | d :: r => uptoBulk d + uptoBulkAll r
def uptoBulkEntries {H : Type} : List (Lit × DataW H) → Nat
  | [] => 0
  | x :: r => uptoBulkEntry x + uptoBulkEntries r
def uptoBulkEntry {H : Type} : Lit × DataW H → Nat
  | (.string bytes, d) => bytes.length + uptoBulk d + 1
  | (_, d) => uptoBulk d + 1
 end
def uptoSmall : (H : Type) → List (DataW H) → Bool := fun _ ds => decide (uptoBulkAll ds ≤ 1048576)
def OpenSpec.upto (s : _root_.Go.ChangeSpec) : _root_.Go.OpenSpec := { _root_.Go.OpenSpec.ofChange s with cond := some uptoSmall }

/-- 'tontinelaw09.DetectLearns', WHERE WHAT IT READS IS OF BULK AT MOST 1048576: true; the input reads as it did. -/
def detectLearnsUptoRow : OpenClaim := { program := "ytobiodbdnpcanaa", sum := "45bd451c683723c159df9b419fb59eafa01ed62d6e54226a1df734a14306ade0", func := "tontine/tontinelaw09.DetectLearns", spec := "detectLearns", unfollowed := true, recurses := true, apart := false, narrowed := true }
def DetectLearnsUptoSaid : Prop := detectLearnsUptoRow.holds Try.pinned (OpenSpec.upto detectLearnsSpec)

/-- 'tontinelaw09.DetectPlays', WHERE WHAT IT READS IS OF BULK AT MOST 1048576: true; the input reads as it did. -/
def detectPlaysUptoRow : OpenClaim := { program := "ytobiodbdnpcanaa", sum := "45bd451c683723c159df9b419fb59eafa01ed62d6e54226a1df734a14306ade0", func := "tontine/tontinelaw09.DetectPlays", spec := "detectPlays", unfollowed := true, recurses := true, apart := false, narrowed := true }
def DetectPlaysUptoSaid : Prop := detectPlaysUptoRow.holds Try.pinned (OpenSpec.upto detectPlaysSpec)

/-- 'tontinelaw09.DetectTells', WHERE WHAT IT READS IS OF BULK AT MOST 1048576: true; the input reads as it did. -/
def detectTellsUptoRow : OpenClaim := { program := "ytobiodbdnpcanaa", sum := "45bd451c683723c159df9b419fb59eafa01ed62d6e54226a1df734a14306ade0", func := "tontine/tontinelaw09.DetectTells", spec := "detectTells", unfollowed := true, recurses := true, apart := false, narrowed := true }
def DetectTellsUptoSaid : Prop := detectTellsUptoRow.holds Try.pinned (OpenSpec.upto detectTellsSpec)

/-- 'tontinelaw09.DetectNil', WHERE WHAT IT READS IS OF BULK AT MOST 1048576: true; the input reads as it did. -/
def detectNilUptoRow : OpenClaim := { program := "ytobiodbdnpcanaa", sum := "45bd451c683723c159df9b419fb59eafa01ed62d6e54226a1df734a14306ade0", func := "tontine/tontinelaw09.DetectNil", spec := "detectNil", unfollowed := true, recurses := true, apart := false, narrowed := true }
def DetectNilUptoSaid : Prop := detectNilUptoRow.holds Try.pinned (OpenSpec.upto detectNilSpec)

end Rows
end Go.Proofs.Ytobiodbdnpcanaa
