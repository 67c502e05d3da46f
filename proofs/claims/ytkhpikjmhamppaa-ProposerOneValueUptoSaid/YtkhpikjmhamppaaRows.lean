/-
  No cell of these rows narrows 'for every input' (looked for: loops, veiled, ifaces, maps, wideKeys, modest, calm, conditions, laid).
  DERIVED. THE GIVEN ROWS OF THIS SEAT. 5 by the template 'for every input the law returns true; each argument reads behind the call as it read before'; 0 by the template 'total and deterministic' (their statements: YtkhpikjmhamppaaTotals.lean).
  GIVEN WITH THE SEED: the statements are not yours to turn. If you find one false, say at which input.
  Laid BY PROGRAM, IN A SANDBOX (cutbox-rows.mjs): the forced cells as the released guide's own fill.sh prints them over the translation 7be6d9774cbd7a14… (all of the seat's roots in one cut). By AI agents, Wed Nov 11 2026. No macro, syntax, notation, axiom, sorry.
-/
import Derived.Test.YtkhpikjmhamppaaChecked
import GoSem.Claim
import GoSem.ClaimJoined
import GoSem.ClaimMapViews
import Derived.JoinedTies
import Derived.KernelRfl
namespace Go.Proofs.Ytkhpikjmhamppaa
/- THE CELL 'sum', in the pinned program and in every row, IS THE sha256 OF THE DUMP (.gsa) THAT YtkhpikjmhamppaaProg.lean LOADS. Nothing in Lean hashes anything: it is a label: what it is worth is what the hold of that sum in a sandbox is worth. -/
noncomputable def Try.pinned : Pinned := { name := "ytkhpikjmhamppaa", sum := "7be6d9774cbd7a149d0e20496479c15d3e3784b8970b3fe2ef23f71103a1feb5", checked := Try.checked }
namespace Rows
def none {H : Type} : Left H := { results := [], args := [] }

/-- 'tontinelaw11.ProposerAdopts': WHATEVER THE INPUT: true; the input reads as it did. -/
def proposerAdoptsSpec : ChangeSpec := { name := "proposerAdopts", fn := fun _ => fun
  | [d1, d2] => { results := [.lit (.bool true)], args := [d1, d2] }
  | _ => none }
def proposerAdoptsRow : OpenClaim := { program := "ytkhpikjmhamppaa", sum := "7be6d9774cbd7a149d0e20496479c15d3e3784b8970b3fe2ef23f71103a1feb5", func := "tontine/tontinelaw11.ProposerAdopts", spec := "proposerAdopts", plainKeys := false, apart := false }
def ProposerAdoptsSaid : Prop := proposerAdoptsRow.holds Try.pinned (OpenSpec.ofChange proposerAdoptsSpec)

/-- ITS FALSE NEIGHBOUR: 'it returns false'. Refute it at one input. -/
def proposerAdoptsWrong : ChangeSpec := { name := "proposerAdopts", fn := fun _ => fun
  | [d1, d2] => { results := [.lit (.bool false)], args := [d1, d2] }
  | _ => none }
def ProposerAdoptsWrongFalsely : Prop := proposerAdoptsRow.holds Try.pinned (OpenSpec.ofChange proposerAdoptsWrong)

/-- 'tontinelaw11.ProposerHeard': WHATEVER THE INPUT: true; the input reads as it did. -/
def proposerHeardSpec : ChangeSpec := { name := "proposerHeard", fn := fun _ => fun
  | [d1, d2] => { results := [.lit (.bool true)], args := [d1, d2] }
  | _ => none }
def proposerHeardRow : OpenClaim := { program := "ytkhpikjmhamppaa", sum := "7be6d9774cbd7a149d0e20496479c15d3e3784b8970b3fe2ef23f71103a1feb5", func := "tontine/tontinelaw11.ProposerHeard", spec := "proposerHeard", plainKeys := false, apart := false }
def ProposerHeardSaid : Prop := proposerHeardRow.holds Try.pinned (OpenSpec.ofChange proposerHeardSpec)

/-- ITS FALSE NEIGHBOUR: 'it returns false'. Refute it at one input. -/
def proposerHeardWrong : ChangeSpec := { name := "proposerHeard", fn := fun _ => fun
  | [d1, d2] => { results := [.lit (.bool false)], args := [d1, d2] }
  | _ => none }
def ProposerHeardWrongFalsely : Prop := proposerHeardRow.holds Try.pinned (OpenSpec.ofChange proposerHeardWrong)

/-- 'tontinelaw11.ProposerPlays': WHATEVER THE INPUT: true; the input reads as it did. -/
def proposerPlaysSpec : ChangeSpec := { name := "proposerPlays", fn := fun _ => fun
  | [d1, d2, d3] => { results := [.lit (.bool true)], args := [d1, d2, d3] }
  | _ => none }
def proposerPlaysRow : OpenClaim := { program := "ytkhpikjmhamppaa", sum := "7be6d9774cbd7a149d0e20496479c15d3e3784b8970b3fe2ef23f71103a1feb5", func := "tontine/tontinelaw11.ProposerPlays", spec := "proposerPlays", plainKeys := false, apart := false }
def ProposerPlaysSaid : Prop := proposerPlaysRow.holds Try.pinned (OpenSpec.ofChange proposerPlaysSpec)

/-- ITS FALSE NEIGHBOUR: 'it returns false'. Refute it at one input. -/
def proposerPlaysWrong : ChangeSpec := { name := "proposerPlays", fn := fun _ => fun
  | [d1, d2, d3] => { results := [.lit (.bool false)], args := [d1, d2, d3] }
  | _ => none }
def ProposerPlaysWrongFalsely : Prop := proposerPlaysRow.holds Try.pinned (OpenSpec.ofChange proposerPlaysWrong)

/-- 'tontinelaw11.ProposerNil': WHATEVER THE INPUT: true; the input reads as it did. -/
def proposerNilSpec : ChangeSpec := { name := "proposerNil", fn := fun _ => fun
  | [d1, d2, d3] => { results := [.lit (.bool true)], args := [d1, d2, d3] }
  | _ => none }
def proposerNilRow : OpenClaim := { program := "ytkhpikjmhamppaa", sum := "7be6d9774cbd7a149d0e20496479c15d3e3784b8970b3fe2ef23f71103a1feb5", func := "tontine/tontinelaw11.ProposerNil", spec := "proposerNil", plainKeys := false, apart := false }
def ProposerNilSaid : Prop := proposerNilRow.holds Try.pinned (OpenSpec.ofChange proposerNilSpec)

/-- ITS FALSE NEIGHBOUR: 'it returns false'. Refute it at one input. -/
def proposerNilWrong : ChangeSpec := { name := "proposerNil", fn := fun _ => fun
  | [d1, d2, d3] => { results := [.lit (.bool false)], args := [d1, d2, d3] }
  | _ => none }
def ProposerNilWrongFalsely : Prop := proposerNilRow.holds Try.pinned (OpenSpec.ofChange proposerNilWrong)

/-- 'tontinelaw11.ProposerOneValue': WHATEVER THE INPUT: true; the input reads as it did. -/
def proposerOneValueSpec : ChangeSpec := { name := "proposerOneValue", fn := fun _ => fun
  | [d1, d2, d3] => { results := [.lit (.bool true)], args := [d1, d2, d3] }
  | _ => none }
def proposerOneValueRow : OpenClaim := { program := "ytkhpikjmhamppaa", sum := "7be6d9774cbd7a149d0e20496479c15d3e3784b8970b3fe2ef23f71103a1feb5", func := "tontine/tontinelaw11.ProposerOneValue", spec := "proposerOneValue", plainKeys := false, apart := false }
def ProposerOneValueSaid : Prop := proposerOneValueRow.holds Try.pinned (OpenSpec.ofChange proposerOneValueSpec)

/-- ITS FALSE NEIGHBOUR: 'it returns false'. Refute it at one input. -/
def proposerOneValueWrong : ChangeSpec := { name := "proposerOneValue", fn := fun _ => fun
  | [d1, d2, d3] => { results := [.lit (.bool false)], args := [d1, d2, d3] }
  | _ => none }
def ProposerOneValueWrongFalsely : Prop := proposerOneValueRow.holds Try.pinned (OpenSpec.ofChange proposerOneValueWrong)

/- THE SECOND FORM. 'bulk': how many values and letters a reading holds, each counted each time it is reached (what is shared counts as often as it is met; a slice's spare places count too). A statement '..UptoSaid' is the law's where the arguments, and the package variables that the reading takes, are together of bulk at most 1048576: NARROWER than '..Said'. Prove '..Said' where nothing that the law and all that it calls make is longer than what came in: it says more and counts as full. Else prove '..UptoSaid'. A law counts once. -/
mutual
def uptoBulk {H : Type} : DataW H → Nat
  | .lit (.string bytes) => bytes.length + 1
  | .lit _ => 1
  | .nil => 1
  | .ptr d => uptoBulk d + 1
  | .slice elems spare => uptoBulkAll elems + uptoBulkAll spare + 1
  | .agg parts => uptoBulkAll parts + 1
  | .iface _ d => uptoBulk d + 1
  | .map entries => uptoBulkEntries entries + 1
  | .held _ => 1
def uptoBulkAll {H : Type} : List (DataW H) → Nat
  | [] => 0
  | d :: r => uptoBulk d + uptoBulkAll r
def uptoBulkEntries {H : Type} : List (Lit × DataW H) → Nat
  | [] => 0
  | x :: r => uptoBulkEntry x + uptoBulkEntries r
def uptoBulkEntry {H : Type} : Lit × DataW H → Nat
  | (.string bytes, d) => bytes.length + uptoBulk d + 1
  | (_, d) => uptoBulk d + 1
 end
def uptoSmall : (H : Type) → List (DataW H) → Bool := fun _ ds => decide (uptoBulkAll ds ≤ 1048576)
def OpenSpec.upto (s : _root_.Go.ChangeSpec) : _root_.Go.OpenSpec := { _root_.Go.OpenSpec.ofChange s with cond := some uptoSmall }

/-- 'tontinelaw11.ProposerAdopts', WHERE WHAT IT READS IS OF BULK AT MOST 1048576: true; the input reads as it did. -/
def proposerAdoptsUptoRow : OpenClaim := { program := "ytkhpikjmhamppaa", sum := "7be6d9774cbd7a149d0e20496479c15d3e3784b8970b3fe2ef23f71103a1feb5", func := "tontine/tontinelaw11.ProposerAdopts", spec := "proposerAdopts", plainKeys := false, apart := false, narrowed := true }
def ProposerAdoptsUptoSaid : Prop := proposerAdoptsUptoRow.holds Try.pinned (OpenSpec.upto proposerAdoptsSpec)

/-- 'tontinelaw11.ProposerHeard', WHERE WHAT IT READS IS OF BULK AT MOST 1048576: true; the input reads as it did. -/
def proposerHeardUptoRow : OpenClaim := { program := "ytkhpikjmhamppaa", sum := "7be6d9774cbd7a149d0e20496479c15d3e3784b8970b3fe2ef23f71103a1feb5", func := "tontine/tontinelaw11.ProposerHeard", spec := "proposerHeard", plainKeys := false, apart := false, narrowed := true }
def ProposerHeardUptoSaid : Prop := proposerHeardUptoRow.holds Try.pinned (OpenSpec.upto proposerHeardSpec)

/-- 'tontinelaw11.ProposerPlays', WHERE WHAT IT READS IS OF BULK AT MOST 1048576: true; the input reads as it did. -/
def proposerPlaysUptoRow : OpenClaim := { program := "ytkhpikjmhamppaa", sum := "7be6d9774cbd7a149d0e20496479c15d3e3784b8970b3fe2ef23f71103a1feb5", func := "tontine/tontinelaw11.ProposerPlays", spec := "proposerPlays", plainKeys := false, apart := false, narrowed := true }
def ProposerPlaysUptoSaid : Prop := proposerPlaysUptoRow.holds Try.pinned (OpenSpec.upto proposerPlaysSpec)

/-- 'tontinelaw11.ProposerNil', WHERE WHAT IT READS IS OF BULK AT MOST 1048576: true; the input reads as it did. -/
def proposerNilUptoRow : OpenClaim := { program := "ytkhpikjmhamppaa", sum := "7be6d9774cbd7a149d0e20496479c15d3e3784b8970b3fe2ef23f71103a1feb5", func := "tontine/tontinelaw11.ProposerNil", spec := "proposerNil", plainKeys := false, apart := false, narrowed := true }
def ProposerNilUptoSaid : Prop := proposerNilUptoRow.holds Try.pinned (OpenSpec.upto proposerNilSpec)

/-- 'tontinelaw11.ProposerOneValue', WHERE WHAT IT READS IS OF BULK AT MOST 1048576: true; the input reads as it did. -/
def proposerOneValueUptoRow : OpenClaim := { program := "ytkhpikjmhamppaa", sum := "7be6d9774cbd7a149d0e20496479c15d3e3784b8970b3fe2ef23f71103a1feb5", func := "tontine/tontinelaw11.ProposerOneValue", spec := "proposerOneValue", plainKeys := false, apart := false, narrowed := true }
def ProposerOneValueUptoSaid : Prop := proposerOneValueUptoRow.holds Try.pinned (OpenSpec.upto proposerOneValueSpec)

end Rows
end Go.Proofs.Ytkhpikjmhamppaa
