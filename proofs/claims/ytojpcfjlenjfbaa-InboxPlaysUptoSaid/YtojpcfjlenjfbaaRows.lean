/-
  No cell of these rows narrows 'for every input' (looked for: loops, veiled, ifaces, maps, wideKeys, modest, calm, conditions, laid).
  DERIVED. THE GIVEN ROWS OF THIS SEAT. 5 by the template 'for every input the law returns true; each argument reads behind the call as it read before'; 0 by the template 'total and deterministic' (their statements: YtojpcfjlenjfbaaTotals.lean).
  GIVEN WITH THE SEED: the statements are not yours to turn. If you find one false, say at which input.
  Laid BY PROGRAM, IN A SANDBOX (cutbox-rows.mjs): the forced cells as the released guide's own fill.sh prints them over the translation 54de645efefb219b… (all of the seat's roots in one cut). By AI agents, Wed Nov 11 2026. No macro, syntax, notation, axiom, sorry.
-/
import Derived.Test.YtojpcfjlenjfbaaChecked
import GoSem.Claim
import GoSem.ClaimJoined
import GoSem.ClaimMapViews
import Derived.JoinedTies
import Derived.KernelRfl
namespace Go.Proofs.Ytojpcfjlenjfbaa
/- THE CELL 'sum', in the pinned program and in every row, IS THE sha256 OF THE DUMP (.gsa) THAT YtojpcfjlenjfbaaProg.lean LOADS. Nothing in Lean hashes anything: it is a label: what it is worth is what the hold of that sum in a sandbox is worth. -/
noncomputable def Try.pinned : Pinned := { name := "ytojpcfjlenjfbaa", sum := "54de645efefb219b9274e0ea9265232fce89e1fafb3aa7a1efff536f1401848b", checked := Try.checked }
namespace Rows
def none {H : Type} : Left H := { results := [], args := [] }

/-- 'tontinelaw08.InboxWaits': WHATEVER THE INPUT: true; the input reads as it did. -/
def inboxWaitsSpec : ChangeSpec := { name := "inboxWaits", fn := fun _ => fun
  | [d1, d2, d3] => { results := [.lit (.bool true)], args := [d1, d2, d3] }
  | _ => none }
def inboxWaitsRow : OpenClaim := { program := "ytojpcfjlenjfbaa", sum := "54de645efefb219b9274e0ea9265232fce89e1fafb3aa7a1efff536f1401848b", func := "tontine/tontinelaw08.InboxWaits", spec := "inboxWaits", unfollowed := true, recurses := true, apart := false }
def InboxWaitsSaid : Prop := inboxWaitsRow.holds Try.pinned (OpenSpec.ofChange inboxWaitsSpec)

/-- ITS FALSE NEIGHBOUR: 'it returns false'. Refute it at one input. -/
def inboxWaitsWrong : ChangeSpec := { name := "inboxWaits", fn := fun _ => fun
  | [d1, d2, d3] => { results := [.lit (.bool false)], args := [d1, d2, d3] }
  | _ => none }
def InboxWaitsWrongFalsely : Prop := inboxWaitsRow.holds Try.pinned (OpenSpec.ofChange inboxWaitsWrong)

/-- 'tontinelaw08.InboxPlays': WHATEVER THE INPUT: true; the input reads as it did. -/
def inboxPlaysSpec : ChangeSpec := { name := "inboxPlays", fn := fun _ => fun
  | [d1, d2] => { results := [.lit (.bool true)], args := [d1, d2] }
  | _ => none }
def inboxPlaysRow : OpenClaim := { program := "ytojpcfjlenjfbaa", sum := "54de645efefb219b9274e0ea9265232fce89e1fafb3aa7a1efff536f1401848b", func := "tontine/tontinelaw08.InboxPlays", spec := "inboxPlays", unfollowed := true, recurses := true, apart := false }
def InboxPlaysSaid : Prop := inboxPlaysRow.holds Try.pinned (OpenSpec.ofChange inboxPlaysSpec)

/-- ITS FALSE NEIGHBOUR: 'it returns false'. Refute it at one input. -/
def inboxPlaysWrong : ChangeSpec := { name := "inboxPlays", fn := fun _ => fun
  | [d1, d2] => { results := [.lit (.bool false)], args := [d1, d2] }
  | _ => none }
def InboxPlaysWrongFalsely : Prop := inboxPlaysRow.holds Try.pinned (OpenSpec.ofChange inboxPlaysWrong)

/-- 'tontinelaw08.InboxCalls': WHATEVER THE INPUT: true; the input reads as it did. -/
def inboxCallsSpec : ChangeSpec := { name := "inboxCalls", fn := fun _ => fun
  | [d1, d2] => { results := [.lit (.bool true)], args := [d1, d2] }
  | _ => none }
def inboxCallsRow : OpenClaim := { program := "ytojpcfjlenjfbaa", sum := "54de645efefb219b9274e0ea9265232fce89e1fafb3aa7a1efff536f1401848b", func := "tontine/tontinelaw08.InboxCalls", spec := "inboxCalls", inPlace := ["internal/reflectlite.TypeOf"], unfollowed := true, recurses := true, apart := false }
def InboxCallsSaid : Prop := inboxCallsRow.holds Try.pinned (OpenSpec.ofChange inboxCallsSpec)

/-- ITS FALSE NEIGHBOUR: 'it returns false'. Refute it at one input. -/
def inboxCallsWrong : ChangeSpec := { name := "inboxCalls", fn := fun _ => fun
  | [d1, d2] => { results := [.lit (.bool false)], args := [d1, d2] }
  | _ => none }
def InboxCallsWrongFalsely : Prop := inboxCallsRow.holds Try.pinned (OpenSpec.ofChange inboxCallsWrong)

/-- 'tontinelaw08.InboxEnds': WHATEVER THE INPUT: true; the input reads as it did. -/
def inboxEndsSpec : ChangeSpec := { name := "inboxEnds", fn := fun _ => fun
  | [d1, d2, d3] => { results := [.lit (.bool true)], args := [d1, d2, d3] }
  | _ => none }
def inboxEndsRow : OpenClaim := { program := "ytojpcfjlenjfbaa", sum := "54de645efefb219b9274e0ea9265232fce89e1fafb3aa7a1efff536f1401848b", func := "tontine/tontinelaw08.InboxEnds", spec := "inboxEnds", inPlace := ["internal/reflectlite.TypeOf"], unfollowed := true, recurses := true, apart := false }
def InboxEndsSaid : Prop := inboxEndsRow.holds Try.pinned (OpenSpec.ofChange inboxEndsSpec)

/-- ITS FALSE NEIGHBOUR: 'it returns false'. Refute it at one input. -/
def inboxEndsWrong : ChangeSpec := { name := "inboxEnds", fn := fun _ => fun
  | [d1, d2, d3] => { results := [.lit (.bool false)], args := [d1, d2, d3] }
  | _ => none }
def InboxEndsWrongFalsely : Prop := inboxEndsRow.holds Try.pinned (OpenSpec.ofChange inboxEndsWrong)

/-- 'tontinelaw08.InboxNil': WHATEVER THE INPUT: true; the input reads as it did. -/
def inboxNilSpec : ChangeSpec := { name := "inboxNil", fn := fun _ => fun
  | [d1, d2] => { results := [.lit (.bool true)], args := [d1, d2] }
  | _ => none }
def inboxNilRow : OpenClaim := { program := "ytojpcfjlenjfbaa", sum := "54de645efefb219b9274e0ea9265232fce89e1fafb3aa7a1efff536f1401848b", func := "tontine/tontinelaw08.InboxNil", spec := "inboxNil", inPlace := ["internal/reflectlite.TypeOf"], unfollowed := true, recurses := true, apart := false }
def InboxNilSaid : Prop := inboxNilRow.holds Try.pinned (OpenSpec.ofChange inboxNilSpec)

/-- ITS FALSE NEIGHBOUR: 'it returns false'. Refute it at one input. -/
def inboxNilWrong : ChangeSpec := { name := "inboxNil", fn := fun _ => fun
  | [d1, d2] => { results := [.lit (.bool false)], args := [d1, d2] }
  | _ => none }
def InboxNilWrongFalsely : Prop := inboxNilRow.holds Try.pinned (OpenSpec.ofChange inboxNilWrong)

/- THE SECOND FORM. 'bulk': how many values and letters a reading holds, each counted each time it is reached (what is shared counts as often as it is met; a slice's spare places count too). A statement '..UptoSaid' is the law's where the arguments, and the package variables that the reading takes, are together of bulk at most 1048576: NARROWER than '..Said'. Prove '..Said' where nothing that the law and all that it calls make is longer than what came in: it says more and counts as full. Else prove '..UptoSaid'. A law counts once. -/
mutual
def uptoBulk {H : Type} : DataW H → Nat
  | .lit (.string bytes) => bytes.length + 1
  | .lit _ => 1
  | .nil => 1
  | .ptr d => uptoBulk d + 1
  | .slice elems spare => uptoBulkAll elems + uptoBulkAll spare + 1
  | .agg parts => uptoBulkAll parts + 1
  | .iface _ d => uptoBulk d + 1
  | .map entries => uptoBulkEntries entries + 1
  | .held _ => 1
def uptoBulkAll {H : Type} : List (DataW H) → Nat
  | [] => 0
  | d :: r => uptoBulk d + uptoBulkAll r
def uptoBulkEntries {H : Type} : List (Lit × DataW H) → Nat
  | [] => 0
  | x :: r => uptoBulkEntry x + uptoBulkEntries r
def uptoBulkEntry {H : Type} : Lit × DataW H → Nat
  | (.string bytes, d) => bytes.length + uptoBulk d + 1
  | (_, d) => uptoBulk d + 1
 end
def uptoSmall : (H : Type) → List (DataW H) → Bool := fun _ ds => decide (uptoBulkAll ds ≤ 1048576)
def OpenSpec.upto (s : _root_.Go.ChangeSpec) : _root_.Go.OpenSpec := { _root_.Go.OpenSpec.ofChange s with cond := some uptoSmall }

/-- 'tontinelaw08.InboxWaits', WHERE WHAT IT READS IS OF BULK AT MOST 1048576: true; the input reads as it did. -/
def inboxWaitsUptoRow : OpenClaim := { program := "ytojpcfjlenjfbaa", sum := "54de645efefb219b9274e0ea9265232fce89e1fafb3aa7a1efff536f1401848b", func := "tontine/tontinelaw08.InboxWaits", spec := "inboxWaits", unfollowed := true, recurses := true, apart := false, narrowed := true }
def InboxWaitsUptoSaid : Prop := inboxWaitsUptoRow.holds Try.pinned (OpenSpec.upto inboxWaitsSpec)

/-- 'tontinelaw08.InboxPlays', WHERE WHAT IT READS IS OF BULK AT MOST 1048576: true; the input reads as it did. -/
def inboxPlaysUptoRow : OpenClaim := { program := "ytojpcfjlenjfbaa", sum := "54de645efefb219b9274e0ea9265232fce89e1fafb3aa7a1efff536f1401848b", func := "tontine/tontinelaw08.InboxPlays", spec := "inboxPlays", unfollowed := true, recurses := true, apart := false, narrowed := true }
def InboxPlaysUptoSaid : Prop := inboxPlaysUptoRow.holds Try.pinned (OpenSpec.upto inboxPlaysSpec)

/-- 'tontinelaw08.InboxCalls', WHERE WHAT IT READS IS OF BULK AT MOST 1048576: true; the input reads as it did. -/
def inboxCallsUptoRow : OpenClaim := { program := "ytojpcfjlenjfbaa", sum := "54de645efefb219b9274e0ea9265232fce89e1fafb3aa7a1efff536f1401848b", func := "tontine/tontinelaw08.InboxCalls", spec := "inboxCalls", inPlace := ["internal/reflectlite.TypeOf"], unfollowed := true, recurses := true, apart := false, narrowed := true }
def InboxCallsUptoSaid : Prop := inboxCallsUptoRow.holds Try.pinned (OpenSpec.upto inboxCallsSpec)

/-- 'tontinelaw08.InboxEnds', WHERE WHAT IT READS IS OF BULK AT MOST 1048576: true; the input reads as it did. -/
def inboxEndsUptoRow : OpenClaim := { program := "ytojpcfjlenjfbaa", sum := "54de645efefb219b9274e0ea9265232fce89e1fafb3aa7a1efff536f1401848b", func := "tontine/tontinelaw08.InboxEnds", spec := "inboxEnds", inPlace := ["internal/reflectlite.TypeOf"], unfollowed := true, recurses := true, apart := false, narrowed := true }
def InboxEndsUptoSaid : Prop := inboxEndsUptoRow.holds Try.pinned (OpenSpec.upto inboxEndsSpec)

/-- 'tontinelaw08.InboxNil', WHERE WHAT IT READS IS OF BULK AT MOST 1048576: true; the input reads as it did. -/
def inboxNilUptoRow : OpenClaim := { program := "ytojpcfjlenjfbaa", sum := "54de645efefb219b9274e0ea9265232fce89e1fafb3aa7a1efff536f1401848b", func := "tontine/tontinelaw08.InboxNil", spec := "inboxNil", inPlace := ["internal/reflectlite.TypeOf"], unfollowed := true, recurses := true, apart := false, narrowed := true }
def InboxNilUptoSaid : Prop := inboxNilUptoRow.holds Try.pinned (OpenSpec.upto inboxNilSpec)

end Rows
end Go.Proofs.Ytojpcfjlenjfbaa
