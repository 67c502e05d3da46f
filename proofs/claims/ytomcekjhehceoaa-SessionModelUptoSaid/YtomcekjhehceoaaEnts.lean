/- WALKS: entries and items, as the store and as the document has them: both come to the plain function. -/
import Derived.Test.YtomcekjhehceoaaKeys
set_option linter.unusedVariables false
set_option linter.unusedSimpArgs false
namespace Go.Proofs.Ytomcekjhehceoaa
open Go.RowKit Go.Tk

/-- a slice of entries reads as a list of keys and values -/
def Ents (w : World) (v : Value) (l : List (ByteArray × ByteArray)) : Prop :=
  l.length ≤ 1048576 ∧ (∀ e ∈ l, e.1.size ≤ 1048576 ∧ e.2.size ≤ 1048576) ∧
  ∃ A c, v = .slice A l.length c ∧ ∀ i e, l[i]? = some e → ∃ b off, A = some ⟨b, off, none⟩ ∧ b < w.heap.size ∧ w.cell? ⟨b, off + i * 2, none⟩ = some (.string e.1) ∧ w.cell? ⟨b, off + i * 2 + 1, none⟩ = some (.string e.2)
theorem Ents.ext {w : World} {v : Value} {l : List (ByteArray × ByteArray)} {x : Ext} (h : Ents w v l) : Ents (w.ext x) v l := by
  obtain ⟨h1, h2, A, c, h3, h4⟩ := h
  refine ⟨h1, h2, A, c, h3, fun i e he => ?_⟩
  obtain ⟨b, off, h5, h6, h7, h8⟩ := h4 i e he
  exact ⟨b, off, h5, by rw [size_ext]; omega, by rw [cell?_ext h6]; exact h7, by rw [cell?_ext h6]; exact h8⟩
theorem Ents.alloc {w : World} {v : Value} {l : List (ByteArray × ByteArray)} (o : Obj) (h : Ents w v l) : Ents (w.alloc o) v l := by
  obtain ⟨h1, h2, A, c, h3, h4⟩ := h
  refine ⟨h1, h2, A, c, h3, fun i e he => ?_⟩
  obtain ⟨b, off, h5, h6, h7, h8⟩ := h4 i e he
  exact ⟨b, off, h5, by simp; omega, by rw [World.cell?_alloc_lt _ _ _ h6]; exact h7, by rw [World.cell?_alloc_lt _ _ _ h6]; exact h8⟩

def lessS (a b : ByteArray) : Bool := Op.bytesLess a.toList b.toList
def okAt (bk : Int) (l : List (ByteArray × ByteArray)) (k : Nat) : Bool :=
  match l[k]? with
  | none => true
  | some x => mayKey x.1 && mayValue x.2 && decide ((bucketOf x.1 : Int) = bk) && (match k with | 0 => true | j + 1 => (match l[j]? with | none => true | some p => lessS p.1 x.1))
def entsOk (bk : Int) (l : List (ByteArray × ByteArray)) : Bool := decide (l.length ≤ 8) && (List.range l.length).all (okAt bk l)
theorem entsOk_yes {bk : Int} {l : List (ByteArray × ByteArray)} {k : Nat} (hk : l.length ≤ k) (h : ∀ j, j < k → okAt bk l j = true) : entsOk bk l = decide (l.length ≤ 8) := by
  unfold entsOk
  rw [List.all_eq_true.2 (fun x hx => h x (by have := List.mem_range.1 hx; omega))]
  simp
theorem entsOk_no {bk : Int} {l : List (ByteArray × ByteArray)} {k : Nat} (hk : k < l.length) (h : okAt bk l k = false) : entsOk bk l = false := by
  unfold entsOk
  rw [Bool.and_eq_false_iff]
  right
  rw [List.all_eq_false]
  exact ⟨k, List.mem_range.2 hk, by simp [h]⟩
theorem okAt_mk {bk : Int} {l : List (ByteArray × ByteArray)} {k : Nat} {x p : ByteArray × ByteArray} (hx : l[k]? = some x) (hp : 0 < k → l[k - 1]? = some p) :
    okAt bk l k = (mayKey x.1 && mayValue x.2 && decide ((bucketOf x.1 : Int) = bk) && (k == 0 || lessS p.1 x.1)) := by
  unfold okAt
  rw [hx]
  cases k with
  | zero => simp
  | succ j => have := hp (by omega); simp at this; simp [this]

set_option maxRecDepth 100000 in
set_option maxHeartbeats 1000000 in
theorem store_entries (bk : Int) (v : Value) (l : List (ByteArray × ByteArray)) (w : World) (he : Ents w v l) :
    Calls Try.prog 40 #[.int .i64 bk, v] w (Gives w (.bool (entsOk bk l))) := by
  obtain ⟨hl, hsz, A, c, rfl, hc⟩ := he
  go_enter Try.func40, Try.ntmps40
  go_wp2
  go_loopw [9] (fun i wr => ∃ k : Nat, ∃ y, k ≤ l.length ∧ i = .int .i64 k ∧ wr = w.ext y ∧ (∀ j, j < k → okAt bk l j = true)) (fun i _ => l.length - (intOf i).toNat)
  case atStart => exact ⟨0, _, by omega, rfl, ext_self, fun j hj => by omega⟩
  case round =>
    obtain ⟨k, y, hk, rfl, rfl, hall⟩ := hrel
    by_cases hlt : k < l.length
    · have hx : l[k]? = some l[k] := List.getElem?_eq_getElem hlt
      obtain ⟨b, off, rfl, hb, h1, h2⟩ := hc k _ hx
      obtain ⟨r1, r2, r3, r4, r5, r6⟩ := roomy hb
      obtain ⟨p, hp⟩ : ∃ p : ByteArray × ByteArray, 0 < k → l[k - 1]? = some p ∧ w.cell? ⟨b, off + (k - 1) * 2, none⟩ = some (.string p.1) := by
        by_cases h0 : 0 < k
        · obtain ⟨b', off', e1, _, e2, _⟩ := hc (k - 1) _ (List.getElem?_eq_getElem (by omega))
          simp only [Option.some.injEq, Addr.mk.injEq, and_true] at e1
          obtain ⟨rfl, rfl⟩ := e1
          exact ⟨l[k - 1], fun _ => ⟨List.getElem?_eq_getElem (by omega), e2⟩⟩
        · exact ⟨default, fun h => absurd h h0⟩
      have hok := okAt_mk (bk := bk) hx (fun h => (hp h).1)
      have hsx := hsz l[k] (List.getElem_mem _)
      have hno := entsOk_no (bk := bk) hlt
      generalize l[k] = x at *
      obtain ⟨xk, xv⟩ := x
      obtain ⟨pk, pv⟩ := p
      simp only at h1 h2 hok hsx hp
      have C1 := Lib.hid (fun W => keys_MayKey xk W (by unfold maxLen; omega))
      have C2 := Lib.hid (fun W => keys_MayValue xv W (by unfold maxLen; omega))
      have C3 := Lib.hid (fun W => keys_KeyBucket xk W (by omega))
      have HX := Lib.hid hx
      have HA := Lib.hid hall
      have HN := Lib.hid hno
      clear hx hc hsz hall hno
      generalize mayKey xk = b1 at *
      generalize mayValue xv = b2 at *
      generalize bucketOf xk = q at *
      have HO := Lib.hid hok
      clear hok
      by_cases hr : b1 = true ∧ b2 = true ∧ (q : Int) = bk
      · obtain ⟨rfl, rfl, rfl⟩ := hr
        by_cases h0 : 0 < k
        · obtain ⟨_, hp2⟩ := hp h0
          clear hp
          have e0 : (k : Int) - 1 = ((k - 1 : Nat) : Int) := by omega
          cases hls : lessS pk xk
          · have hls' : Op.bytesLess pk.toList xk.toList = false := hls
            have HL := Lib.hid hls
            clear hls
            go_wp2
            refine wp_region_ext (by kernel_rfl) (by kernel_rfl) ?_
            repeat (go_big_quiet_step ((first | (go_at_call 37; exact quiet_pure (C1.out _)) | (go_at_call 41; exact quiet_pure (C2.out _)) | (go_at_call 42; exact quiet_pure (C3.out _)))))
            refine wpQuiet_nil ?_
            intro _ hq
            obtain ⟨yq, hq⟩ := hq
            subst hq
            go_wp2
            go_ret
            exact .mk (by rw [HN.out (by rw [HO.out, HL.out]; simp; omega)]; rfl) (below_of_ext (Below.alloc below_ext (by simp [size_ext]) _) (by simp [size_ext]; omega))
          · have hls' : Op.bytesLess pk.toList xk.toList = true := hls
            have HL := Lib.hid hls
            clear hls
            go_wp2
            refine wp_region_ext (by kernel_rfl) (by kernel_rfl) ?_
            repeat (go_big_quiet_step ((first | (go_at_call 37; exact quiet_pure (C1.out _)) | (go_at_call 41; exact quiet_pure (C2.out _)) | (go_at_call 42; exact quiet_pure (C3.out _)))))
            refine wpQuiet_nil ?_
            intro _ hq
            obtain ⟨yq, hq⟩ := hq
            subst hq
            go_wp2
            go_roundw
            case rel => exact ⟨k + 1, _, by omega, by go_num, world_ext1, fun j hj => by
              rcases Nat.lt_succ_iff_lt_or_eq.1 hj with h | rfl
              · exact HA.out j h
              · rw [HO.out, HL.out]; simp⟩
            case measure => simp [intOf]; omega
        · obtain rfl : k = 0 := by omega
          clear hp
          simp only [Nat.zero_mul, Nat.add_zero] at h1 h2
          go_wp2
          refine wp_region_ext (by kernel_rfl) (by kernel_rfl) ?_
          repeat (go_big_quiet_step ((first | (go_at_call 37; exact quiet_pure (C1.out _)) | (go_at_call 41; exact quiet_pure (C2.out _)) | (go_at_call 42; exact quiet_pure (C3.out _)))))
          refine wpQuiet_nil ?_
          intro _ hq
          obtain ⟨yq, hq⟩ := hq
          subst hq
          go_wp2
          go_roundw
          case rel => exact ⟨1, _, by omega, rfl, world_ext1, fun j hj => by
              obtain rfl : j = 0 := by omega
              rw [HO.out]; simp⟩
          case measure => simp [intOf]; omega
      · have HN' := Lib.hid (HN.out (by rw [HO.out]; simp; intro a b c; exact absurd ⟨a, b, c⟩ hr))
        clear HN hp
        cases b1
        · clear hr
          go_wp2
          refine wp_region_ext (by kernel_rfl) (by kernel_rfl) ?_
          repeat (go_big_quiet_step ((first | (go_at_call 37; exact quiet_pure (C1.out _)) | (go_at_call 41; exact quiet_pure (C2.out _)) | (go_at_call 42; exact quiet_pure (C3.out _)))))
          refine wpQuiet_nil ?_
          intro _ hq
          obtain ⟨yq, hq⟩ := hq
          subst hq
          go_wp2
          go_ret
          exact .mk (by rw [HN'.out]; rfl) (below_of_ext (Below.alloc below_ext (by simp [size_ext]) _) (by simp [size_ext]; omega))
        · cases b2
          · clear hr
            go_wp2
            refine wp_region_ext (by kernel_rfl) (by kernel_rfl) ?_
            repeat (go_big_quiet_step ((first | (go_at_call 37; exact quiet_pure (C1.out _)) | (go_at_call 41; exact quiet_pure (C2.out _)) | (go_at_call 42; exact quiet_pure (C3.out _)))))
            refine wpQuiet_nil ?_
            intro _ hq
            obtain ⟨yq, hq⟩ := hq
            subst hq
            go_wp2
            go_ret
            exact .mk (by rw [HN'.out]; rfl) (below_of_ext (Below.alloc below_ext (by simp [size_ext]) _) (by simp [size_ext]; omega))
          · have hq : ((q : Int) == bk) = false := by
              rw [beq_eq_false_iff_ne]
              exact fun h => hr ⟨rfl, rfl, h⟩
            have hq' : ((q : Int) != bk) = true := by simp [bne, hq]
            clear hr
            go_wp2
            refine wp_region_ext (by kernel_rfl) (by kernel_rfl) ?_
            repeat (go_big_quiet_step ((first | (go_at_call 37; exact quiet_pure (C1.out _)) | (go_at_call 41; exact quiet_pure (C2.out _)) | (go_at_call 42; exact quiet_pure (C3.out _)))))
            refine wpQuiet_nil ?_
            intro _ hq
            obtain ⟨yq, hq⟩ := hq
            subst hq
            go_wp2
            go_ret
            exact .mk (by rw [HN'.out]; rfl) (below_of_ext (Below.alloc below_ext (by simp [size_ext]) _) (by simp [size_ext]; omega))
    · have h1 := entsOk_yes (by omega) hall
      have H1 := Lib.hid h1
      clear h1
      go_wp2
      go_ret
      exact .mk (vbool (by rw [H1.out]; simp; omega)) below_ext

set_option maxRecDepth 100000 in
set_option maxHeartbeats 1000000 in
theorem ref15_Entries (bk : Int) (v : Value) (l : List (ByteArray × ByteArray)) (w : World) (he : Ents w v l) :
    Calls Try.prog 50 #[.int .i64 bk, v] w (Gives w (.bool (entsOk bk l))) := by
  obtain ⟨hl, hsz, A, c, rfl, hc⟩ := he
  by_cases h8 : l.length ≤ 8
  · go_enter Try.func50, Try.ntmps50
    go_wp2
    go_loopw [5] (fun i wr => ∃ k : Nat, ∃ y, k ≤ l.length ∧ i = .int .i64 k ∧ wr = w.ext y ∧ (∀ j, j < k → okAt bk l j = true)) (fun i _ => l.length - (intOf i).toNat)
    case atStart => exact ⟨0, _, by omega, rfl, ext_self, fun j hj => by omega⟩
    case round =>
      obtain ⟨k, y, hk, rfl, rfl, hall⟩ := hrel
      by_cases hlt : k < l.length
      · have hx : l[k]? = some l[k] := List.getElem?_eq_getElem hlt
        obtain ⟨b, off, rfl, hb, h1, h2⟩ := hc k _ hx
        obtain ⟨r1, r2, r3, r4, r5, r6⟩ := roomy hb
        obtain ⟨p, hp⟩ : ∃ p : ByteArray × ByteArray, 0 < k → l[k - 1]? = some p ∧ w.cell? ⟨b, off + (k - 1) * 2, none⟩ = some (.string p.1) := by
          by_cases h0 : 0 < k
          · obtain ⟨b', off', e1, _, e2, _⟩ := hc (k - 1) _ (List.getElem?_eq_getElem (by omega))
            simp only [Option.some.injEq, Addr.mk.injEq, and_true] at e1
            obtain ⟨rfl, rfl⟩ := e1
            exact ⟨l[k - 1], fun _ => ⟨List.getElem?_eq_getElem (by omega), e2⟩⟩
          · exact ⟨default, fun h => absurd h h0⟩
        have hok := okAt_mk (bk := bk) hx (fun h => (hp h).1)
        have hsx := hsz l[k] (List.getElem_mem _)
        have hno := entsOk_no (bk := bk) hlt
        generalize l[k] = x at *
        obtain ⟨xk, xv⟩ := x
        obtain ⟨pk, pv⟩ := p
        simp only at h1 h2 hok hsx hp
        have C1 := Lib.hid (fun W => ref01_MayKey xk W (by unfold maxLen; omega))
        have C2 := Lib.hid (fun W => ref01_MayValue xv W (by unfold maxLen; omega))
        have C3 := Lib.hid (fun W => ref01_Of xk W (by omega))
        have C4 := Lib.hid (fun W => ref01_Bucket (posHi xk) (posLo xk) W (posHi_lt _))
        have HX := Lib.hid hx
        have HA := Lib.hid hall
        have HN := Lib.hid hno
        clear hx hc hsz hall hno
        generalize mayKey xk = b1 at *
        generalize mayValue xv = b2 at *
        unfold bucketOf at hok
        generalize posHi xk / 288230376151711744 = q at *
        generalize posHi xk = hi at *
        generalize posLo xk = lo at *
        have HO := Lib.hid hok
        clear hok
        go_wp2_with fail
        refine (C1.out _).mono ?_
        rintro e w1 ⟨rfl, y1, rfl⟩
        go_wp2_with fail
        refine (C2.out _).mono ?_
        rintro e w1 ⟨rfl, y2, rfl⟩
        go_wp2_with fail
        by_cases hr : b1 = true ∧ b2 = true ∧ (q : Int) = bk
        · obtain ⟨rfl, rfl, rfl⟩ := hr
          by_cases h0 : 0 < k
          · obtain ⟨_, hp2⟩ := hp h0
            clear hp
            have e0 : (k : Int) - 1 = ((k - 1 : Nat) : Int) := by omega
            cases hls : lessS pk xk
            · have hls' : Op.bytesLess pk.toList xk.toList = false := hls
              have HL := Lib.hid hls
              clear hls
              refine wp_region_ext (by kernel_rfl) (by kernel_rfl) ?_
              repeat (go_big_quiet_step ((first | (go_at_call 19; exact quiet_pure (C3.out _)) | (go_at_call 18; exact quiet_pure (C4.out _)))))
              refine wpQuiet_nil ?_
              intro _ hq
              obtain ⟨yq, hq⟩ := hq
              subst hq
              go_wp2
              go_ret
              exact .mk (by rw [HN.out (by rw [HO.out, HL.out]; simp; omega)]; rfl) (by simp only [ext_ext]; exact below_ext)
            · have hls' : Op.bytesLess pk.toList xk.toList = true := hls
              have HL := Lib.hid hls
              clear hls
              refine wp_region_ext (by kernel_rfl) (by kernel_rfl) ?_
              repeat (go_big_quiet_step ((first | (go_at_call 19; exact quiet_pure (C3.out _)) | (go_at_call 18; exact quiet_pure (C4.out _)))))
              refine wpQuiet_nil ?_
              intro _ hq
              obtain ⟨yq, hq⟩ := hq
              subst hq
              go_wp2
              go_roundw
              case rel => exact ⟨k + 1, _, by omega, by go_num, by simp only [ext_ext]; rfl, fun j hj => by
                rcases Nat.lt_succ_iff_lt_or_eq.1 hj with h | rfl
                · exact HA.out j h
                · rw [HO.out, HL.out]; simp⟩
              case measure => simp [intOf]; omega
          · obtain rfl : k = 0 := by omega
            clear hp
            simp only [Nat.zero_mul, Nat.add_zero] at h1 h2
            refine wp_region_ext (by kernel_rfl) (by kernel_rfl) ?_
            repeat (go_big_quiet_step ((first | (go_at_call 19; exact quiet_pure (C3.out _)) | (go_at_call 18; exact quiet_pure (C4.out _)))))
            refine wpQuiet_nil ?_
            intro _ hq
            obtain ⟨yq, hq⟩ := hq
            subst hq
            go_wp2
            go_roundw
            case rel => exact ⟨1, _, by omega, rfl, by simp only [ext_ext]; rfl, fun j hj => by
                obtain rfl : j = 0 := by omega
                rw [HO.out]; simp⟩
            case measure => simp [intOf]; omega
        · have HN' := Lib.hid (HN.out (by rw [HO.out]; simp; intro a b c; exact absurd ⟨a, b, c⟩ hr))
          clear HN hp
          cases b1
          · clear hr
            refine wp_region_ext (by kernel_rfl) (by kernel_rfl) ?_
            repeat (go_big_quiet_step ((first | (go_at_call 19; exact quiet_pure (C3.out _)) | (go_at_call 18; exact quiet_pure (C4.out _)))))
            refine wpQuiet_nil ?_
            intro _ hq
            obtain ⟨yq, hq⟩ := hq
            subst hq
            go_wp2
            go_ret
            exact .mk (by rw [HN'.out]; rfl) (by simp only [ext_ext]; exact below_ext)
          · cases b2
            · clear hr
              refine wp_region_ext (by kernel_rfl) (by kernel_rfl) ?_
              repeat (go_big_quiet_step ((first | (go_at_call 19; exact quiet_pure (C3.out _)) | (go_at_call 18; exact quiet_pure (C4.out _)))))
              refine wpQuiet_nil ?_
              intro _ hq
              obtain ⟨yq, hq⟩ := hq
              subst hq
              go_wp2
              go_ret
              exact .mk (by rw [HN'.out]; rfl) (by simp only [ext_ext]; exact below_ext)
            · have hq : ((q : Int) == bk) = false := by
                rw [beq_eq_false_iff_ne]
                exact fun h => hr ⟨rfl, rfl, h⟩
              have hq' : ((q : Int) != bk) = true := by simp [bne, hq]
              clear hr
              refine wp_region_ext (by kernel_rfl) (by kernel_rfl) ?_
              repeat (go_big_quiet_step ((first | (go_at_call 19; exact quiet_pure (C3.out _)) | (go_at_call 18; exact quiet_pure (C4.out _)))))
              refine wpQuiet_nil ?_
              intro _ hq
              obtain ⟨yq, hq⟩ := hq
              subst hq
              go_wp2
              go_ret
              exact .mk (by rw [HN'.out]; rfl) (by simp only [ext_ext]; exact below_ext)
      · have h1 := entsOk_yes (by omega) hall
        have H1 := Lib.hid h1
        clear h1
        go_wp2
        go_ret
        exact .mk (vbool (by rw [H1.out]; simp; omega)) below_ext
  · have H1 : Hid (entsOk bk l = false) := Lib.hid (by unfold entsOk; simp [h8])
    go_enter Try.func50, Try.ntmps50
    go_wp2
    go_ret
    exact .mk (by rw [H1.out]; rfl) (Below.refl _ _)
end Go.Proofs.Ytomcekjhehceoaa
