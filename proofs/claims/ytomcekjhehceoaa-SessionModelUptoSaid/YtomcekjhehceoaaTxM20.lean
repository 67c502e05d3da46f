/- WORDS: a transaction's items that a call owns, as parts of memory; slices.Clone of entries. -/
import Derived.Test.YtomcekjhehceoaaFam
import Derived.Test.YtomcekjhehceoaaTx20
set_option linter.unusedVariables false
set_option linter.unusedSimpArgs false
namespace Go.Proofs.Ytomcekjhehceoaa
open Go.RowKit Go.Tk
def entCells (e : ByteArray × ByteArray) : List Value := [.string e.1, .string e.2]
theorem entLen (e : ByteArray × ByteArray) : (entCells e).length = 2 := rfl
theorem entTy : ElTy Try.prog 33 65 2 entCells (.empty, .empty) := ⟨Try.underlying33, by kernel_rfl, by kernel_rfl, by omega, fun _ => rfl, fun a u h => by simp [entCells] at h; rcases h with rfl | rfl <;> rfl⟩
def zeroItem : ItemR := ⟨0, 0, false, .slice none 0 0, [], fun _ => 0⟩
def ItemR.ok (x : ItemR) : Prop := ∃ A c, x.data = .slice A x.ents.length c
/-- an item whose data is a slice, for sure -/
structure ItS where
  bucket : Int
  ver : Int
  write : Bool
  B : Option Addr
  d : Nat
  ents : List (ByteArray × ByteArray)
  inc : Nat → Int
def ItS.r (x : ItS) : ItemR := ⟨x.bucket, x.ver, x.write, .slice x.B x.ents.length x.d, x.ents, x.inc⟩
def itCells (x : ItS) : List Value := [.int .i64 x.bucket, .int .u32 x.ver, .bool x.write, .slice x.B x.ents.length x.d, .int .u32 (x.inc 0), .int .u32 (x.inc 1), .int .u32 (x.inc 2), .int .u32 (x.inc 3)]
theorem itLen (x : ItS) : (itCells x).length = 8 := rfl
theorem itTy : ElTy Try.prog 31 36 8 itCells ⟨0, 0, false, none, 0, [], fun _ => 0⟩ := ⟨Try.underlying31, by kernel_rfl, by kernel_rfl, by omega, fun _ => rfl, fun a u h => by simp [itCells] at h; rcases h with rfl | rfl | rfl | rfl | rfl | rfl | rfl | rfl <;> rfl⟩
theorem Ents.fr {w w' : World} {v : Value} {l : List (ByteArray × ByteArray)} (h : Ents w v l) (f : Fr [] w w') : Ents w' v l := by
  obtain ⟨h1, h2, A, c, h3, h4⟩ := h
  refine ⟨h1, h2, A, c, h3, fun i e he => ?_⟩
  obtain ⟨b, off, h5, h6, h7, h8⟩ := h4 i e he
  exact ⟨b, off, h5, Nat.lt_of_lt_of_le h6 f.size, (f.cell h6).trans h7, (f.cell h6).trans h8⟩
theorem Items.fr {w w' : World} {v : Value} {l : List ItemR} (h : Items w v l) (f : Fr [] w w') : Items w' v l :=
  h.of f.size (fun b o hb => f.cell hb) (fun _ _ he => he.fr f)
/-- the blocks of the items' data -/
def dfoot (l : List ItS) : List Nat := ddup (l.flatMap (fun x => afoot x.B))
theorem ents_loc {w w' : World} {x : ItS} (h : ∀ b ∈ afoot x.B, w'.heap[b]? = w.heap[b]?) (he : Ents w (.slice x.B x.ents.length x.d) x.ents) : Ents w' (.slice x.B x.ents.length x.d) x.ents := by
  obtain ⟨h1, h2, A, c, h3, h4⟩ := he
  refine ⟨h1, h2, A, c, h3, fun i e hi => ?_⟩
  obtain ⟨b, off, h5, h6, h7, h8⟩ := h4 i e hi
  have hA : x.B = some ⟨b, off, none⟩ := by
    injection h3 with e1
    rw [e1]; exact h5
  have hb := h b (by rw [hA]; simp [afoot])
  refine ⟨b, off, h5, ?_, ?_, ?_⟩
  · have h0 : w.heap[b]? = some w.heap[b] := Array.getElem?_eq_getElem h6
    rw [h0] at hb
    exact (Array.getElem?_eq_some_iff.1 hb).1
  · rw [World.cell?_of_block hb]; exact h7
  · rw [World.cell?_of_block hb]; exact h8
def datasA (l : List ItS) : Asn := .mk (dfoot l) (fun w => ∀ x ∈ l, Ents w (.slice x.B x.ents.length x.d) x.ents) (fun w w' h hl x hx => ents_loc (fun b hb => h b (mem_ddup.2 (List.mem_flatMap.2 ⟨x, hx, hb⟩))) (hl x hx))
theorem foot_datasA (l : List ItS) : (datasA l).foot = dfoot l := rfl
theorem factsP_datasA {w : World} {L : List Asn} {l : List ItS} : factsP w (datasA l :: L) = factsP w L := rfl
theorem ptb_datasA {L : List Asn} {l : List ItS} : ptb (datasA l :: L) = ptb L := rfl
abbrev itemsA (A : Option Addr) (c : Nat) (l : List ItS) : Asn := listA 36 8 itCells A c l
theorem upd_datasA {l : List ItS} {L : List Asn} {b j : Nat} {v : Value} : upd (datasA l :: L) b j v = datasA l :: upd L b j v := rfl
def txL (A : Option Addr) (c : Nat) (l : List ItS) : List Asn := [itemsA A c l, datasA l]
def txA (A : Option Addr) (c : Nat) (l : List ItS) : Asn := bun (txL A c l)
theorem factsP_txA {w : World} {L : List Asn} {A : Option Addr} {c : Nat} {l : List ItS} : factsP w (txA A c l :: L) = factsP w L := rfl
theorem ptb_txA {L : List Asn} {A : Option Addr} {c : Nat} {l : List ItS} : ptb (txA A c l :: L) = ptb L := rfl
theorem upd_txA {A : Option Addr} {c : Nat} {l : List ItS} {L : List Asn} {b j : Nat} {v : Value} : upd (txA A c l :: L) b j v = txA A c l :: upd L b j v := rfl
/-- the items read as a list -/
theorem items_of {w : World} {A : Option Addr} {c : Nat} {l : List ItS} (hl : l.length ≤ 1048576) (h1 : (itemsA A c l).holds w) (h2 : ∀ x ∈ l, Ents w (.slice x.B x.ents.length x.d) x.ents) : Items w (.slice A l.length c) (l.map ItS.r) := by
  refine ⟨by simpa using hl, A, c, by simp, fun i x hx => ?_⟩
  rw [List.getElem?_map] at hx
  cases hy : l[i]? with
  | none => rw [hy] at hx; simp at hx
  | some y =>
    rw [hy] at hx
    simp only [Option.map_some, Option.some.injEq] at hx
    subst hx
    obtain ⟨g, hA, hr, _, hq⟩ := listA_get itLen h1 hy
    simp only [itCells, cellsQ, and_true, Nat.add_zero] at hq
    obtain ⟨q0, q1, q2, q3, q4, q5, q6, q7⟩ := hq
    exact ⟨h2 y (List.mem_of_getElem? hy), g, 0, hA, hr.1, by rw [Nat.zero_add]; exact q0, by rw [Nat.zero_add]; exact q1, by rw [Nat.zero_add]; exact q2, by rw [Nat.zero_add]; exact q3, by rw [Nat.zero_add]; exact q4, by rw [Nat.zero_add]; exact q5, by rw [Nat.zero_add]; exact q6, by rw [Nat.zero_add]; exact q7⟩
theorem txA_items {w : World} {A : Option Addr} {c : Nat} {l : List ItS} (hl : l.length ≤ 1048576) (h : (txA A c l).holds w) : Items w (.slice A l.length c) (l.map ItS.r) :=
  items_of hl (h (itemsA A c l) (by simp [txL])) (h (datasA l) (by simp [txL]))
/-- items that came in, as items whose data are slices -/
theorem items_s {w : World} {v : Value} {l : List ItemR} (h : Items w v l) : ∃ (A : Option Addr) (c : Nat) (s : List ItS), v = .slice A s.length c ∧ s.map ItS.r = l ∧ s.length ≤ 1048576 ∧ (∀ x ∈ s, Ents w (.slice x.B x.ents.length x.d) x.ents) ∧ ∀ (i : Nat) x, s[i]? = some x → ∃ b off, A = some ⟨b, off, none⟩ ∧ b < w.heap.size ∧ cellsQ w b (off + i * 8) (itCells x) 0 := by
  obtain ⟨h1, A, c, rfl, h3⟩ := h
  have key : ∀ x ∈ l, ∃ y : ItS, y.r = x := by
    intro x hx
    obtain ⟨i, hi⟩ := List.mem_iff_getElem?.1 hx
    obtain ⟨⟨_, _, B, d, hd, _⟩, _⟩ := h3 i x hi
    obtain ⟨a1, a2, a3, a4, a5, a6⟩ := x
    simp only at hd
    subst hd
    exact ⟨⟨a1, a2, a3, B, d, a5, a6⟩, rfl⟩
  obtain ⟨s, hs⟩ : ∃ s : List ItS, s.map ItS.r = l := by
    clear h3 h1
    induction l with
    | nil => exact ⟨[], rfl⟩
    | cons x l ih =>
      obtain ⟨y, hy⟩ := key x (by simp)
      obtain ⟨s, hs⟩ := ih (fun z hz => key z (by simp [hz]))
      exact ⟨y :: s, by simp [hy, hs]⟩
  subst hs
  refine ⟨A, c, s, by simp, rfl, by simpa using h1, fun x hx => ?_, fun i x hx => ?_⟩
  · obtain ⟨i, hi⟩ := List.mem_iff_getElem?.1 hx
    exact (h3 i x.r (by rw [List.getElem?_map, hi]; rfl)).1
  · obtain ⟨_, b, off, hA, hb, q0, q1, q2, q3, q4, q5, q6, q7⟩ := h3 i x.r (by rw [List.getElem?_map, hx]; rfl)
    exact ⟨b, off, hA, hb, by simp only [itCells, cellsQ, Nat.add_zero, and_true]; exact ⟨q0, q1, q2, q3, q4, q5, q6, q7⟩⟩
theorem cellsQ_at {w : World} {b base : Nat} : ∀ {vs : List Value} {j0 j : Nat} {v : Value}, cellsQ w b base vs j0 → vs[j]? = some v → w.cell? ⟨b, base + (j0 + j), none⟩ = some v
  | [], _, _, _, _, h => by simp at h
  | u :: vs, j0, 0, v, hq, h => by
    simp only [List.getElem?_cons_zero, Option.some.injEq] at h
    subst h
    exact hq.1
  | u :: vs, j0, j + 1, v, hq, h => by
    simp only [List.getElem?_cons_succ] at h
    have := cellsQ_at hq.2 h
    rwa [show j0 + (j + 1) = j0 + 1 + j by omega]
/-- a list that came in, as a source of an append -/
theorem src_of {α : Type} {size : Nat} {cs : α → List Value} {w : World} {A : Option Addr} {l : List α} (hcs : ∀ a, (cs a).length = size) (h : ∀ (i : Nat) x, l[i]? = some x → ∃ b off, A = some ⟨b, off, none⟩ ∧ b < w.heap.size ∧ cellsQ w b (off + i * size) (cs x) 0) (hs : 0 < size) : Src w A size l.length (l.flatMap cs) := by
  refine ⟨flatMap_len hcs l, fun hl => ?_⟩
  obtain ⟨b, off, hA, hb, _⟩ := h 0 _ (List.getElem?_eq_getElem hl)
  refine ⟨b, off, hA, fun j u hu => ?_⟩
  have hj : j < l.length * size := by
    have := (List.getElem?_eq_some_iff.1 hu).1
    rwa [flatMap_len hcs] at this
  have hi : j / size < l.length := Nat.div_lt_of_lt_mul (by rw [Nat.mul_comm]; exact hj)
  have hm : j % size < size := Nat.mod_lt _ hs
  have hx : l[j / size]? = some l[j / size] := List.getElem?_eq_getElem hi
  have e1 := flatMap_at hcs l (j / size) _ hx (j % size) hm
  rw [show j / size * size + j % size = j by rw [Nat.mul_comm]; exact Nat.div_add_mod j size] at e1
  rw [e1] at hu
  obtain ⟨b', off', hA', hb', hq⟩ := h _ _ hx
  rw [hA] at hA'
  injection hA' with hA'
  injection hA' with e2 e3
  subst e2 e3
  have := cellsQ_at hq hu
  rw [Nat.zero_add, Nat.add_assoc, show j / size * size + j % size = j by rw [Nat.mul_comm]; exact Nat.div_add_mod j size] at this
  exact this
theorem src_fr {w w' : World} {A : Option Addr} {size : Nat} {n : Nat} {vs : List Value} (h : Src w A size n vs) (f : Fr [] w w') (hlt : ∀ b off, A = some ⟨b, off, none⟩ → 0 < n → b < w.heap.size) : Src w' A size n vs := by
  refine ⟨h.1, fun hn => ?_⟩
  obtain ⟨b, off, hA, hc⟩ := h.2 hn
  exact ⟨b, off, hA, fun j u hu => (f.cell (hlt b off hA hn)).trans (hc j u hu)⟩
theorem eqNilI (w : World) (c : Nat) : (binOp .eql 31 (.slice none 0 c) (.slice none 0 0)).run Try.prog w = .ok (.bool true) w := by kernel_rfl
theorem eqNotI (w : World) (a : Addr) (n c : Nat) : (binOp .eql 31 (.slice (some a) n c) (.slice none 0 0)).run Try.prog w = .ok (.bool false) w := by kernel_rfl
theorem eqNilE (w : World) (c : Nat) : (binOp .eql 33 (.slice none 0 c) (.slice none 0 0)).run Try.prog w = .ok (.bool true) w := by kernel_rfl
theorem eqNotE (w : World) (a : Addr) (n c : Nat) : (binOp .eql 33 (.slice (some a) n c) (.slice none 0 0)).run Try.prog w = .ok (.bool false) w := by kernel_rfl
theorem ptList19 {α : Type} {e : TypeId} {size : Nat} {cs : α → List Value} {w0 w : World} {F : List Nat} {L : List Asn} {g : Nat} {l : List α} (hcs : ∀ a, (cs a).length = size) (h : Mem w0 F w (.pt g (l.flatMap cs) e :: L)) (hl : l.length ≤ maxLen) : Mem w0 F w (listA e size cs (some ⟨g, 0, none⟩) l.length l :: L) :=
  Mem.listShut (tail := []) hcs (by simpa using h) (by simp) (Nat.le_refl _) hl
/-- a list that came in, anywhere -/
def At {α : Type} (size : Nat) (cs : α → List Value) (w : World) (A : Option Addr) (l : List α) : Prop := ∀ (i : Nat) x, l[i]? = some x → ∃ b off, A = some ⟨b, off, none⟩ ∧ b < w.heap.size ∧ cellsQ w b (off + i * size) (cs x) 0
theorem At.fr {α : Type} {size : Nat} {cs : α → List Value} {w w' : World} {A : Option Addr} {l : List α} (h : At size cs w A l) (f : Fr [] w w') : At size cs w' A l := fun i x hx => by
  obtain ⟨b, off, h1, h2, h3⟩ := h i x hx
  exact ⟨b, off, h1, Nat.lt_of_lt_of_le h2 f.size, cellsQ_fr f h2 _ _ h3⟩
theorem ents_at {w : World} {B : Option Addr} {d : Nat} {l : List (ByteArray × ByteArray)} (h : Ents w (.slice B l.length d) l) : At 2 entCells w B l := by
  obtain ⟨h1, h2, A, c, h3, h4⟩ := h
  injection h3 with e1
  subst e1
  intro i x hx
  obtain ⟨b, off, h5, h6, h7, h8⟩ := h4 i x hx
  exact ⟨b, off, h5, h6, h7, h8, trivial⟩
set_option maxRecDepth 100000 in
set_option maxHeartbeats 4000000 in
theorem c_CloneE (w : World) (A : Option Addr) (c : Nat) (l : List (ByteArray × ByteArray)) (h : At 2 entCells w A l) (hl : l.length ≤ 1048576) :
    Calls Try.prog 28 #[.slice A l.length c] w (fun e w' => ∃ A' c', e = .returned (.slice A' l.length c') ∧ Mem w [] w' [listA 65 2 entCells A' c' l]) := by
  have O : Mem w [] w [] := Mem.begin
  cases A with
  | none =>
    have hnil : l = [] := by
      cases l with
      | nil => rfl
      | cons x l => obtain ⟨b, off, h1, _⟩ := h 0 x rfl; simp at h1
    subst hnil
    simp only [List.length_nil]
    have hen := eqNilE
    go_enter Try.func28, Try.ntmps28
    have cs := O.facts
    try simp only [factsP, cellsP, roomP, foots_cons, foots_nil, foots_append, foot_pt, ptb, ptb_mapA, foot_mapA, factsP_mapA, foot_bun, List.append_nil, List.nil_append, List.cons_append, List.nodup_cons, List.nodup_nil, List.mem_cons, List.not_mem_nil, List.mem_singleton, List.forall_mem_cons, not_or, not_false_eq_true, and_true, true_and, or_false, false_or, forall_eq_or_imp, forall_eq, implies_true, Nat.zero_add, Nat.reduceAdd, and_assoc, ptb_listA, factsP_listA, Nat.mul_one] at cs
    go_wp2_with fail
    go_ret
    exact ⟨none, 0, rfl, O.listNil⟩
  | some a =>
    have H := Lib.hid h
    clear h
    have hen := fun w => eqNotE w a l.length c
    go_enter Try.func28, Try.ntmps28
    have cs := O.facts
    try simp only [factsP, cellsP, roomP, foots_cons, foots_nil, foots_append, foot_pt, ptb, ptb_mapA, foot_mapA, factsP_mapA, foot_bun, List.append_nil, List.nil_append, List.cons_append, List.nodup_cons, List.nodup_nil, List.mem_cons, List.not_mem_nil, List.mem_singleton, List.forall_mem_cons, not_or, not_false_eq_true, and_true, true_and, or_false, false_or, forall_eq_or_imp, forall_eq, implies_true, Nat.zero_add, Nat.reduceAdd, and_assoc, ptb_listA, factsP_listA, Nat.mul_one] at cs
    go_wp2_with ((at_builtin; refine entTy.wl_app (ptList19 (l := []) entLen (O.alloc [] 65) (by simp)) rfl rfl rfl rfl l rfl rfl (src_of entLen (H.out.fr (O.alloc [] 65).fr) (by omega)) (by simp; omega) ?_; intro A1 c1 w4 O4))
    go_ret
    exact ⟨A1, c1, by simp, by simpa using O4.sub (List.Sublist.refl _)⟩
/-- what an item says, wherever its data lie -/
structure Core where
  bucket : Int
  ver : Int
  write : Bool
  ents : List (ByteArray × ByteArray)
  inc : Nat → Int
def ItS.core (x : ItS) : Core := ⟨x.bucket, x.ver, x.write, x.ents, x.inc⟩
def ItS.at_ (x : ItS) (B : Option Addr) (d : Nat) : ItS := ⟨x.bucket, x.ver, x.write, B, d, x.ents, x.inc⟩
theorem ents_of_list {w : World} {x : ItS} (hs : (∀ e ∈ x.ents, e.1.size ≤ 1048576 ∧ e.2.size ≤ 1048576) ∧ x.ents.length ≤ 1048576) (h : (listA 65 2 entCells x.B x.d x.ents).holds w) : Ents w (.slice x.B x.ents.length x.d) x.ents := by
  refine ⟨hs.2, hs.1, x.B, x.d, rfl, fun i e he => ?_⟩
  obtain ⟨g, hA, hr, _, hq⟩ := listA_get entLen h he
  simp only [entCells, cellsQ, and_true, Nat.add_zero] at hq
  exact ⟨g, 0, hA, hr.1, by rw [Nat.zero_add]; exact hq.1, by rw [Nat.zero_add]; exact hq.2⟩
theorem afoot_nodup (B : Option Addr) : (afoot B).Nodup := by cases B <;> simp [afoot]
/-- one more item's data -/
theorem Mem.dataMore {w0 w : World} {F : List Nat} {L : List Asn} {l : List ItS} {x : ItS} (h : Mem w0 F w (listA 65 2 entCells x.B x.d x.ents :: datasA l :: L)) (hs : (∀ e ∈ x.ents, e.1.size ≤ 1048576 ∧ e.2.size ≤ 1048576) ∧ x.ents.length ≤ 1048576) : Mem w0 F w (datasA (l ++ [x]) :: L) := by
  refine Mem.recast (L1 := [listA 65 2 entCells x.B x.d x.ents, datasA l]) [datasA (l ++ [x])] h ?_ ?_ ?_
  · intro A hA
    simp only [List.mem_singleton] at hA
    subst hA
    intro y hy
    rcases List.mem_append.1 hy with hy | hy
    · exact h.hold (datasA l) (by simp) y hy
    · simp only [List.mem_singleton] at hy
      subst hy
      exact ents_of_list hs (h.hold _ (by simp))
  · intro b hb
    simp only [foots_cons, foots_nil, List.append_nil, foot_datasA, dfoot, mem_ddup, List.flatMap_append, List.flatMap_cons, List.flatMap_nil, List.mem_append] at hb ⊢
    rcases hb with hb | hb
    · exact .inr hb
    · exact .inl hb
  · simp only [foots_cons, foots_nil, List.append_nil, foot_datasA]
    exact nodup_ddup _
theorem Mem.dataNil {w0 w : World} {F : List Nat} {L : List Asn} (h : Mem w0 F w L) : Mem w0 F w (datasA [] :: L) := Mem.recast (L1 := []) [datasA []] h (by intro A hA; simp only [List.mem_singleton] at hA; subst hA; intro x hx; simp at hx) (by simp [foot_datasA, dfoot, ddup]) (by simp [foot_datasA, dfoot, ddup])
theorem c_CloneM (W : World) (s1 : List ItS) (x : ItS) (hW : Pre W [datasA s1]) (h : At 2 entCells W x.B x.ents) (hes : (∀ e ∈ x.ents, e.1.size ≤ 1048576 ∧ e.2.size ≤ 1048576) ∧ x.ents.length ≤ 1048576) :
    Calls Try.prog 28 #[.slice x.B x.ents.length x.d] W (fun e w' => ∃ A' c', e = .returned (.slice A' x.ents.length c') ∧ Mem W (foots [datasA s1]) w' [datasA (s1 ++ [x.at_ A' c'])]) :=
  (c_CloneE W x.B x.d x.ents h hes.2).mono fun e w' ⟨A', c', h1, h2⟩ => ⟨A', c', h1, Mem.dataMore (x := x.at_ A' c') (hW.call [] h2) hes⟩
theorem listA_atl {α : Type} {e : TypeId} {size : Nat} {cs : α → List Value} {w : World} {A : Option Addr} {c : Nat} {l : List α} (hcs : ∀ a, (cs a).length = size) (h : (listA e size cs A c l).holds w) : At size cs w A l := fun i x hx => by
  obtain ⟨g, hA, hr, _, hq⟩ := listA_get hcs h hx
  exact ⟨g, 0, hA, hr.1, by rw [Nat.zero_add]; exact hq⟩
end Go.Proofs.Ytomcekjhehceoaa
