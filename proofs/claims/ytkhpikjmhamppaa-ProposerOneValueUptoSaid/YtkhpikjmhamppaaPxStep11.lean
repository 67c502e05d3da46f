/- WALK: a step of the world of Paxos: any event. -/
import Derived.Test.YtkhpikjmhamppaaPxVote11
import Derived.Test.YtkhpikjmhamppaaPxBegin11
import Derived.Test.YtkhpikjmhamppaaPxPrep11
import Derived.Test.YtkhpikjmhamppaaPxAcc11
import Derived.Test.YtkhpikjmhamppaaPxProm11
import Derived.Test.YtkhpikjmhamppaaPxLearn11
import Derived.Test.YtkhpikjmhamppaaPxIdle0x11
import Derived.Test.YtkhpikjmhamppaaPxIdle2x11
import Derived.Test.YtkhpikjmhamppaaPxIdle3x11
import Derived.Test.YtkhpikjmhamppaaPxIdle4x11
import Derived.Test.YtkhpikjmhamppaaPxIdle5x11
import Derived.Test.YtkhpikjmhamppaaPxIdleL11
set_option linter.unusedVariables false
set_option linter.unusedSimpArgs false
namespace Go.Proofs.Ytkhpikjmhamppaa
open Go.RowKit Go.Tk
def Ev.told (e : Ev) : Option ByteArray := if e.kind = 0 then some e.v else none
theorem px_step (w : World) (xb n : Nat) (X : PxM) (P : List ByteArray) (e : Ev) (hn : 1 ≤ n ∧ n ≤ 5) (h : Pre w (X.parts n xb)) (hk : inI64 e.kind) (ha : inI64 e.a) (hb : inI64 e.b) (hsz : X.size ≤ 1000000) (hro : X.round ≤ 1000000) (hI : Inv n P X.st) (hmo : ∀ q ∈ X.props, q.2.1 = none → q.2.2.b.r = 0) :
    Calls Try.prog 23 #[.pointer (some ⟨xb, 0, none⟩), e.val] w (fun r w' => r = .returned (.tuple #[]) ∧ StepPost n xb w X e.told w') := by
  obtain ⟨k, a, b, v⟩ := e
  simp only at hk ha hb
  by_cases h0 : k = 0
  · subst h0
    exact px_begin w xb n X P a b v hn h ha hb hsz hro hI hmo
  have ht : (⟨k, a, b, v⟩ : Ev).told = none := by simp [Ev.told, h0]
  rw [ht]
  by_cases h1 : k = 1
  · subst h1
    exact px_vote w xb n X a b v hn h ha hsz hmo
  by_cases h2 : k = 2
  · subst h2
    exact px_prep w xb n X P a b v hn h ha hb hsz hro hI hmo
  by_cases h3 : k = 3
  · subst h3
    exact px_acc w xb n X P a b v hn h ha hb hsz hro hI hmo
  by_cases h4 : k = 4
  · subst h4
    exact px_prom w xb n X P a b v hn h ha hb hsz hro hI hmo
  by_cases h5 : k = 5
  · subst h5
    exact px_learn w xb n X P a b v hn h ha hb hsz hro hI hmo
  by_cases h6 : k < 0
  · exact px_low w xb n X k a b v hn h hk hb hsz hmo h6
  · have h7 : 5 < k := by omega
    have hp : pickN k 6 < 6 := pickN_lt (by omega)
    by_cases g0 : pickN k 6 < 2
    · exact px_high01 w xb n X k a b v hn h hk hb hsz hmo h7 g0
    · have hc : pickN k 6 = 2 ∨ pickN k 6 = 3 ∨ pickN k 6 = 4 ∨ pickN k 6 = 5 := by omega
      rcases hc with g | g | g | g
      · exact px_high2 w xb n X k a b v hn h hk hb hsz hmo h7 g
      · exact px_high3 w xb n X k a b v hn h hk hb hsz hmo h7 g
      · exact px_high4 w xb n X k a b v hn h hk hb hsz hmo h7 g
      · exact px_high5 w xb n X k a b v hn h hk hb hsz hmo h7 g
end Go.Proofs.Ytkhpikjmhamppaa
