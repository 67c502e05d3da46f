/- CONTRACTS of an acceptor's table (New, Prepare, Accept), in the words of what a call owns. -/
import Derived.Test.YtplliabmnhigbaaMem
import Derived.Test.YtplliabmnhigbaaAccAcc
import Derived.Test.YtplliabmnhigbaaAccAct
set_option linter.unusedVariables false
set_option linter.unusedSimpArgs false
namespace Go.Proofs.Ytplliabmnhigbaa
open Go.RowKit Go.Tk

def tabA (tb mb : Nat) (most : Int) (m : Rows10) : Asn := bun [.pt tb [.int .i64 most, .map (some mb)] 129, mapA instKey Row.val mb m]
theorem foot_tabA {tb mb : Nat} {most : Int} {m : Rows10} : (tabA tb mb most m).foot = [tb, mb] := rfl
theorem factsP_tabA {w : World} {L : List Asn} {tb mb : Nat} {most : Int} {m : Rows10} : factsP w (tabA tb mb most m :: L) = factsP w L := rfl
theorem ptb_tabA {L : List Asn} {tb mb : Nat} {most : Int} {m : Rows10} : ptb (tabA tb mb most m :: L) = ptb L := rfl
theorem tab_of {w : World} {tb mb : Nat} {most : Int} {m : Rows10} (h : Pre w [tabA tb mb most m]) : Tab w tb mb most m := by
  have h2 := h.open_
  have a := h2.hold (.pt tb [.int .i64 most, .map (some mb)] 129) (by simp)
  have b : MapAt instKey Row.val w mb m := h2.hold (mapA instKey Row.val mb m) (by simp)
  exact ⟨(cell_of_heap a).trans rfl, (cell_of_heap a).trans rfl, lt_of_heap a, b⟩
theorem tab_to {w w' : World} {tb mb : Nat} {most : Int} {m m' : Rows10} (h : Pre w [tabA tb mb most m]) (hk : Kept mb w w') (hm : MapAt instKey Row.val w' mb m') : Mem w (foots [tabA tb mb most m]) w' [tabA tb mb most m'] := by
  have h2 := h.open_
  have a := h2.hold (.pt tb [.int .i64 most, .map (some mb)] 129) (by simp)
  have hn := h2.nodup
  have hne : tb ≠ mb := by
    simp [foots, Asn.foot, mapA] at hn
    exact hn
  refine ⟨(Fr.of_kept hk).trans (G := []) Fr.refl (fun _ h => (nomatch h)) |> fun f => ⟨f.os, f.tape, f.output, f.size, fun k hk' hn' => f.block k hk' (fun hc => hn' (by simp only [foots_cons, foot_tabA, foots_nil]; simp at hc; simp [hc]))⟩, ?_, ?_, ?_, ?_⟩
  · intro A hA
    simp only [List.mem_singleton] at hA
    subst hA
    intro B hB
    simp only [List.mem_cons, List.not_mem_nil, or_false] at hB
    rcases hB with rfl | rfl
    · exact hk.heap a hne
    · exact hm
  · intro b hb
    have := h.lt b (by simpa [foot_tabA] using hb)
    exact Nat.lt_of_lt_of_le this hk.size
  · intro b hb
    exact .inl (by simpa [foot_tabA] using hb)
  · have := h.nodup
    simpa [foot_tabA] using this
section
variable (w : World) (tb mb : Nat) (most : Int) (m : Rows10) (i : Inst) (b : Ballot) (v : ByteArray)
theorem m_NewT (n : Int) (h : 1 ≤ n ∧ n ≤ 4096) : Calls Try.prog 27 #[.int .i64 n] w (fun e w' => e = .returned (.tuple #[.pointer (some ⟨w.heap.size + 1, 0, none⟩), .int .i64 0]) ∧ Mem w [] w' [tabA (w.heap.size + 1) w.heap.size n []]) := by
  obtain ⟨h1, h2⟩ := h
  have hmm := @run_makeMap Try.prog
  go_enter Try.func27, Try.ntmps27
  go_wp2
  go_ret2
  refine ⟨rfl, ?_⟩
  have O : Mem w [] w [] := Mem.begin
  have O2 := (O.newMap (κ := instKey) (vv := Row.val)).alloc [.int .i64 n, .map (some w.heap.size)] 129
  rw [World.size_alloc] at O2
  exact Mem.shut (l := [_, _]) O2
theorem m_Prepare (h : Pre w [tabA tb mb most m]) (hi : i.wf) : Calls Try.prog 54 #[.pointer (some ⟨tb, 0, none⟩), i.val, b.val] w (fun e w' => e = .returned (.tuple #[(prepare10 most m i b).1.val, (prepare10 most m i b).2.1.val, .bool (prepare10 most m i b).2.2.1, .int .i64 (prepare10 most m i b).2.2.2.1]) ∧ Mem w (foots [tabA tb mb most m]) w' [tabA tb mb most (prepare10 most m i b).2.2.2.2]) :=
  (acc_Prepare w tb mb most m i b (tab_of h) hi).mono fun _ _ ⟨he, hk, hm⟩ => ⟨he, tab_to h hk hm⟩
theorem m_Accept (h : Pre w [tabA tb mb most m]) (hi : i.wf) : Calls Try.prog 56 #[.pointer (some ⟨tb, 0, none⟩), i.val, b.val, .string v] w (fun e w' => e = .returned (.tuple #[(accept10 most m i b v).1.val, .bool (accept10 most m i b v).2.1, .int .i64 (accept10 most m i b v).2.2.1]) ∧ Mem w (foots [tabA tb mb most m]) w' [tabA tb mb most (accept10 most m i b v).2.2.2]) :=
  (acc_Accept w tb mb most m i b v (tab_of h) hi).mono fun _ _ ⟨he, hk, hm⟩ => ⟨he, tab_to h hk hm⟩
end
end Go.Proofs.Ytplliabmnhigbaa
