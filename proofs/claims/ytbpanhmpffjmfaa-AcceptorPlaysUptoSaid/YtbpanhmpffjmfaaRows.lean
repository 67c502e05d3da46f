/-
  No cell of these rows narrows 'for every input' (looked for: loops, veiled, ifaces, maps, wideKeys, modest, calm, conditions, laid).
  DERIVED. THE GIVEN ROWS OF THIS SEAT. 5 by the template 'for every input the law returns true; each argument reads behind the call as it read before'; 0 by the template 'total and deterministic' (their statements: YtbpanhmpffjmfaaTotals.lean).
  GIVEN WITH THE SEED: the statements are not yours to turn. If you find one false, say at which input.
  Laid BY PROGRAM, IN A SANDBOX (cutbox-rows.mjs): the forced cells as the released guide's own fill.sh prints them over the translation 854146e92814efd2… (all of the seat's roots in one cut). By AI agents, Wed Nov 11 2026. No macro, syntax, notation, axiom, sorry.
-/
import Derived.Test.YtbpanhmpffjmfaaChecked
import GoSem.Claim
import GoSem.ClaimJoined
import GoSem.ClaimMapViews
import Derived.JoinedTies
import Derived.KernelRfl
namespace Go.Proofs.Ytbpanhmpffjmfaa
/- THE CELL 'sum', in the pinned program and in every row, IS THE sha256 OF THE DUMP (.gsa) THAT YtbpanhmpffjmfaaProg.lean LOADS. Nothing in Lean hashes anything: it is a label: what it is worth is what the hold of that sum in a sandbox is worth. -/
noncomputable def Try.pinned : Pinned := { name := "ytbpanhmpffjmfaa", sum := "854146e92814efd2448b1448d911dce31773633e8c78b404856afedeed1eaabf", checked := Try.checked }
namespace Rows
def none {H : Type} : Left H := { results := [], args := [] }

/-- 'tontinelaw10.AcceptorPromises': WHATEVER THE INPUT: true; the input reads as it did. -/
def acceptorPromisesSpec : ChangeSpec := { name := "acceptorPromises", fn := fun _ => fun
  | [d] => { results := [.lit (.bool true)], args := [d] }
  | _ => none }
def acceptorPromisesRow : OpenClaim := { program := "ytbpanhmpffjmfaa", sum := "854146e92814efd2448b1448d911dce31773633e8c78b404856afedeed1eaabf", func := "tontine/tontinelaw10.AcceptorPromises", spec := "acceptorPromises", plainKeys := false, apart := false }
def AcceptorPromisesSaid : Prop := acceptorPromisesRow.holds Try.pinned (OpenSpec.ofChange acceptorPromisesSpec)

/-- ITS FALSE NEIGHBOUR: 'it returns false'. Refute it at one input. -/
def acceptorPromisesWrong : ChangeSpec := { name := "acceptorPromises", fn := fun _ => fun
  | [d] => { results := [.lit (.bool false)], args := [d] }
  | _ => none }
def AcceptorPromisesWrongFalsely : Prop := acceptorPromisesRow.holds Try.pinned (OpenSpec.ofChange acceptorPromisesWrong)

/-- 'tontinelaw10.AcceptorAlone': WHATEVER THE INPUT: true; the input reads as it did. -/
def acceptorAloneSpec : ChangeSpec := { name := "acceptorAlone", fn := fun _ => fun
  | [d] => { results := [.lit (.bool true)], args := [d] }
  | _ => none }
def acceptorAloneRow : OpenClaim := { program := "ytbpanhmpffjmfaa", sum := "854146e92814efd2448b1448d911dce31773633e8c78b404856afedeed1eaabf", func := "tontine/tontinelaw10.AcceptorAlone", spec := "acceptorAlone", plainKeys := false, apart := false }
def AcceptorAloneSaid : Prop := acceptorAloneRow.holds Try.pinned (OpenSpec.ofChange acceptorAloneSpec)

/-- ITS FALSE NEIGHBOUR: 'it returns false'. Refute it at one input. -/
def acceptorAloneWrong : ChangeSpec := { name := "acceptorAlone", fn := fun _ => fun
  | [d] => { results := [.lit (.bool false)], args := [d] }
  | _ => none }
def AcceptorAloneWrongFalsely : Prop := acceptorAloneRow.holds Try.pinned (OpenSpec.ofChange acceptorAloneWrong)

/-- 'tontinelaw10.AcceptorPlays': WHATEVER THE INPUT: true; the input reads as it did. -/
def acceptorPlaysSpec : ChangeSpec := { name := "acceptorPlays", fn := fun _ => fun
  | [d1, d2] => { results := [.lit (.bool true)], args := [d1, d2] }
  | _ => none }
def acceptorPlaysRow : OpenClaim := { program := "ytbpanhmpffjmfaa", sum := "854146e92814efd2448b1448d911dce31773633e8c78b404856afedeed1eaabf", func := "tontine/tontinelaw10.AcceptorPlays", spec := "acceptorPlays", plainKeys := false, apart := false }
def AcceptorPlaysSaid : Prop := acceptorPlaysRow.holds Try.pinned (OpenSpec.ofChange acceptorPlaysSpec)

/-- ITS FALSE NEIGHBOUR: 'it returns false'. Refute it at one input. -/
def acceptorPlaysWrong : ChangeSpec := { name := "acceptorPlays", fn := fun _ => fun
  | [d1, d2] => { results := [.lit (.bool false)], args := [d1, d2] }
  | _ => none }
def AcceptorPlaysWrongFalsely : Prop := acceptorPlaysRow.holds Try.pinned (OpenSpec.ofChange acceptorPlaysWrong)

/-- 'tontinelaw10.AcceptorNil': WHATEVER THE INPUT: true; the input reads as it did. -/
def acceptorNilSpec : ChangeSpec := { name := "acceptorNil", fn := fun _ => fun
  | [d1, d2] => { results := [.lit (.bool true)], args := [d1, d2] }
  | _ => none }
def acceptorNilRow : OpenClaim := { program := "ytbpanhmpffjmfaa", sum := "854146e92814efd2448b1448d911dce31773633e8c78b404856afedeed1eaabf", func := "tontine/tontinelaw10.AcceptorNil", spec := "acceptorNil", plainKeys := false, apart := false }
def AcceptorNilSaid : Prop := acceptorNilRow.holds Try.pinned (OpenSpec.ofChange acceptorNilSpec)

/-- ITS FALSE NEIGHBOUR: 'it returns false'. Refute it at one input. -/
def acceptorNilWrong : ChangeSpec := { name := "acceptorNil", fn := fun _ => fun
  | [d1, d2] => { results := [.lit (.bool false)], args := [d1, d2] }
  | _ => none }
def AcceptorNilWrongFalsely : Prop := acceptorNilRow.holds Try.pinned (OpenSpec.ofChange acceptorNilWrong)

/-- 'tontinelaw10.AcceptorForgets': WHATEVER THE INPUT: true; the input reads as it did. -/
def acceptorForgetsSpec : ChangeSpec := { name := "acceptorForgets", fn := fun _ => fun
  | [d1, d2] => { results := [.lit (.bool true)], args := [d1, d2] }
  | _ => none }
def acceptorForgetsRow : OpenClaim := { program := "ytbpanhmpffjmfaa", sum := "854146e92814efd2448b1448d911dce31773633e8c78b404856afedeed1eaabf", func := "tontine/tontinelaw10.AcceptorForgets", spec := "acceptorForgets", plainKeys := false, apart := false }
def AcceptorForgetsSaid : Prop := acceptorForgetsRow.holds Try.pinned (OpenSpec.ofChange acceptorForgetsSpec)

/-- ITS FALSE NEIGHBOUR: 'it returns false'. Refute it at one input. -/
def acceptorForgetsWrong : ChangeSpec := { name := "acceptorForgets", fn := fun _ => fun
  | [d1, d2] => { results := [.lit (.bool false)], args := [d1, d2] }
  | _ => none }
def AcceptorForgetsWrongFalsely : Prop := acceptorForgetsRow.holds Try.pinned (OpenSpec.ofChange acceptorForgetsWrong)

/- THE SECOND FORM. 'bulk': how many values and letters a reading holds, each counted each time it is reached (what is shared counts as often as it is met; a slice's spare places count too). A statement '..UptoSaid' is the law's where the arguments, and the package variables that the reading takes, are together of bulk at most 1048576: NARROWER than '..Said'. Prove '..Said' where nothing that the law and all that it calls make is longer than what came in: it says more and counts as full. Else prove '..UptoSaid'. A law counts once. -/
mutual
def uptoBulk {H : Type} : DataW H → Nat
  | .lit (.string bytes) => bytes.length + 1
  | .lit _ => 1
  | .nil => 1
  | .ptr d => uptoBulk d + 1
  | .slice elems spare => uptoBulkAll elems + uptoBulkAll spare + 1
  | .agg parts => uptoBulkAll parts + 1
  | .iface _ d => uptoBulk d + 1
  | .map entries => uptoBulkEntries entries + 1
  | .held _ => 1
def uptoBulkAll {H : Type} : List (DataW H) → Nat
  | [] => 0
  | d :: r => uptoBulk d + uptoBulkAll r
def uptoBulkEntries {H : Type} : List (Lit × DataW H) → Nat
  | [] => 0
  | x :: r => uptoBulkEntry x + uptoBulkEntries r
def uptoBulkEntry {H : Type} : Lit × DataW H → Nat
  | (.string bytes, d) => bytes.length + uptoBulk d + 1
  | (_, d) => uptoBulk d + 1
 end
def uptoSmall : (H : Type) → List (DataW H) → Bool := fun _ ds => decide (uptoBulkAll ds ≤ 1048576)
def OpenSpec.upto (s : _root_.Go.ChangeSpec) : _root_.Go.OpenSpec := { _root_.Go.OpenSpec.ofChange s with cond := some uptoSmall }

/-- 'tontinelaw10.AcceptorPromises', WHERE WHAT IT READS IS OF BULK AT MOST 1048576: true; the input reads as it did. -/
def acceptorPromisesUptoRow : OpenClaim := { program := "ytbpanhmpffjmfaa", sum := "854146e92814efd2448b1448d911dce31773633e8c78b404856afedeed1eaabf", func := "tontine/tontinelaw10.AcceptorPromises", spec := "acceptorPromises", plainKeys := false, apart := false, narrowed := true }
def AcceptorPromisesUptoSaid : Prop := acceptorPromisesUptoRow.holds Try.pinned (OpenSpec.upto acceptorPromisesSpec)

/-- 'tontinelaw10.AcceptorAlone', WHERE WHAT IT READS IS OF BULK AT MOST 1048576: true; the input reads as it did. -/
def acceptorAloneUptoRow : OpenClaim := { program := "ytbpanhmpffjmfaa", sum := "854146e92814efd2448b1448d911dce31773633e8c78b404856afedeed1eaabf", func := "tontine/tontinelaw10.AcceptorAlone", spec := "acceptorAlone", plainKeys := false, apart := false, narrowed := true }
def AcceptorAloneUptoSaid : Prop := acceptorAloneUptoRow.holds Try.pinned (OpenSpec.upto acceptorAloneSpec)

/-- 'tontinelaw10.AcceptorPlays', WHERE WHAT IT READS IS OF BULK AT MOST 1048576: true; the input reads as it did. -/
def acceptorPlaysUptoRow : OpenClaim := { program := "ytbpanhmpffjmfaa", sum := "854146e92814efd2448b1448d911dce31773633e8c78b404856afedeed1eaabf", func := "tontine/tontinelaw10.AcceptorPlays", spec := "acceptorPlays", plainKeys := false, apart := false, narrowed := true }
def AcceptorPlaysUptoSaid : Prop := acceptorPlaysUptoRow.holds Try.pinned (OpenSpec.upto acceptorPlaysSpec)

/-- 'tontinelaw10.AcceptorNil', WHERE WHAT IT READS IS OF BULK AT MOST 1048576: true; the input reads as it did. -/
def acceptorNilUptoRow : OpenClaim := { program := "ytbpanhmpffjmfaa", sum := "854146e92814efd2448b1448d911dce31773633e8c78b404856afedeed1eaabf", func := "tontine/tontinelaw10.AcceptorNil", spec := "acceptorNil", plainKeys := false, apart := false, narrowed := true }
def AcceptorNilUptoSaid : Prop := acceptorNilUptoRow.holds Try.pinned (OpenSpec.upto acceptorNilSpec)

/-- 'tontinelaw10.AcceptorForgets', WHERE WHAT IT READS IS OF BULK AT MOST 1048576: true; the input reads as it did. -/
def acceptorForgetsUptoRow : OpenClaim := { program := "ytbpanhmpffjmfaa", sum := "854146e92814efd2448b1448d911dce31773633e8c78b404856afedeed1eaabf", func := "tontine/tontinelaw10.AcceptorForgets", spec := "acceptorForgets", plainKeys := false, apart := false, narrowed := true }
def AcceptorForgetsUptoSaid : Prop := acceptorForgetsUptoRow.holds Try.pinned (OpenSpec.upto acceptorForgetsSpec)

end Rows
end Go.Proofs.Ytbpanhmpffjmfaa
