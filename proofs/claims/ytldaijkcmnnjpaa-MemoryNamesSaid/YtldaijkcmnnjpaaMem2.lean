/- Contracts and laws of a chapter that its statement of names leans on. Each states its conditions. -/
import Derived.Test.YtldaijkcmnnjpaaMem1
namespace Go.Proofs.Ytldaijkcmnnjpaa
open Go.RowKit Wire
set_option linter.unusedVariables false
/-- A slice of regions that reads as a list of bases and bytes. -/
def RdR (w : World) (A : Option Addr) (n : Nat) (L : List (Nat × List UInt8)) : Prop :=
  L.length = n ∧ ∃ vs : List (List Value), vs.length = n ∧ (∀ u ∈ vs, u.length = 2) ∧ Reads w w.heap.size 2 A n vs.flatten ∧
    ∀ (k : Nat) (p : Nat × List UInt8), L[k]? = some p → ∃ Ai ci, vs[k]? = some [.int .u64 (p.1 : Int), .slice Ai p.2.length ci] ∧ (p.2.length ≤ ci ∧ ci ≤ 9223372036854775807) ∧ Rb w Ai p.2.length p.2 ∧ p.1 < 18446744073709551616
theorem RdR.mv {w w' : World} {A : Option Addr} {n : Nat} {L : List (Nat × List UInt8)} (h : RdR w A n L) (hb : Below w.heap.size w w') : RdR w' A n L := by
  obtain ⟨h1, vs, h2, h3, h4, h5⟩ := h
  refine ⟨h1, vs, h2, h3, h4.mv hb, fun k p hp => ?_⟩
  obtain ⟨Ai, ci, g1, g2, g3, g4⟩ := h5 k p hp
  exact ⟨Ai, ci, g1, g2, g3.mv hb, g4⟩
theorem flat2_get {vs : List (List Value)} (h : ∀ u ∈ vs, u.length = 2) {k : Nat} {a b : Value} (hk : vs[k]? = some [a, b]) : vs.flatten[k * 2]? = some a ∧ vs.flatten[k * 2 + 1]? = some b := by
  induction vs generalizing k with
  | nil => simp at hk
  | cons u vs ih =>
    have hu := h u (by simp)
    rcases k with _ | k
    · simp at hk
      subst hk
      simp
    · have := ih (fun x hx => h x (by simp [hx])) (k := k) (by simpa using hk)
      rw [List.flatten_cons]
      have e1 : (k + 1) * 2 = u.length + k * 2 := by omega
      have e2 : (k + 1) * 2 + 1 = u.length + (k * 2 + 1) := by omega
      exact ⟨by rw [e1, List.getElem?_append_right (by omega)]; simpa using this.1, by rw [e2, List.getElem?_append_right (by omega)]; simpa using this.2⟩
theorem RdR.at_ {w : World} {A : Option Addr} {n : Nat} {L : List (Nat × List UInt8)} (h : RdR w A n L) {k : Nat} (hk : k < n) :
    ∃ ad b l Ai ci, A = some ad ∧ ad.block < w.heap.size ∧ L[k]? = some (b, l) ∧ w.cell? (ad.add (k * 2)) = some (.int .u64 (b : Int)) ∧ w.cell? (ad.add (k * 2 + 1)) = some (.slice Ai l.length ci) ∧
      (l.length ≤ ci ∧ ci ≤ 9223372036854775807) ∧ Rb w Ai l.length l ∧ b < 18446744073709551616 := by
  obtain ⟨h1, vs, h2, h3, h4, h5⟩ := h
  have hl : k < L.length := by omega
  obtain ⟨Ai, ci, g1, g2, g3, g4⟩ := h5 k L[k] (List.getElem?_eq_getElem hl)
  obtain ⟨ad, rfl, hb, hc⟩ := h4.2 (by omega)
  obtain ⟨f1, f2⟩ := flat2_get h3 g1
  exact ⟨ad, L[k].1, L[k].2, Ai, ci, rfl, hb, List.getElem?_eq_getElem hl, hc _ _ f1, hc _ _ f2, g2, g3, g4⟩
/-- Whether regions are stacks, from a number on. -/
def stkB (i : Nat) : List (Nat × List UInt8) → Bool
  | [] => true
  | p :: r => fitB p.1 (16777216 * (i + 1)) p.2.length 4096 && stkB (i + 1) r
def stB (L : List (Nat × List UInt8)) : Bool := stkB 0 L && (decide (0 < L.length) && decide (L.length ≤ 16))
theorem drop_get {α : Type} {l : List α} {j : Nat} {a : α} (h : l[j]? = some a) : l.drop j = a :: l.drop (j + 1) := by
  obtain ⟨hl, rfl⟩ := List.getElem?_eq_some_iff.mp h
  exact List.drop_eq_getElem_cons hl
set_option maxHeartbeats 1600000 in
theorem base26_any (g : Nat) (w : World) (hg : g ≤ 1000000) :
    Calls Try.prog 80 #[.int .i64 (g : Int)] w fun e w' => e = .returned (.int .u64 ((16777216 * (g + 1) : Nat) : Int)) ∧ w = w' := by
  go_enter Try.func80, Try.ntmps80
  go_wp2_with fail
  go_ret
  exact ⟨by simp, rfl⟩
set_option maxRecDepth 100000 in
set_option maxHeartbeats 3200000 in
theorem areStacks_any (A : Option Addr) (n c : Nat) (L : List (Nat × List UInt8)) (w : World) (hr : RdR w A n L) (hn : n ≤ 1000000) :
    Calls Try.prog 75 #[.slice A n c] w fun e w' => e = .returned (.bool (stB L)) ∧ Below w.heap.size w w' := by
  have HL := Lib.hid hr.1
  go_enter Try.func75, Try.ntmps75
  go_wp2_with fail
  go_loopw [7] (fun i wr => ∃ j : Nat, j ≤ n ∧ i = .int .i64 (j : Int) ∧ stkB j (L.drop j) = stkB 0 L ∧ Below w.heap.size w wr) (fun i _ => n - (intOf i).toNat)
  case atStart => exact ⟨0, by omega, rfl, rfl, Below.refl _ _⟩
  case round =>
    obtain ⟨j, hj, rfl, ht, hB⟩ := hrel
    by_cases hlt : j < n
    · obtain ⟨ad, b, l, Ai, ci, hA, hab, hz, c0, c1, _, _, _⟩ := (hr.mv hB).at_ hlt
      have hdr := drop_get hz
      rw [hdr] at ht
      have HT := Lib.hid ht
      clear ht hz hdr
      subst hA
      have b1 := Ext.al wr (.cells #[.int .u64 (b : Int), .slice Ai l.length ci] 75)
      have h4 := Blk.new wr 75 #[.int .u64 (b : Int), .slice Ai l.length ci]
      have hB1 := hB.trans (Below.mono b1 hB.size)
      have c2 : wr.cell? { block := (ad.add (j * 2)).block, off := (ad.add (j * 2)).off + 1 } = some (.slice Ai l.length ci) := by
        have e : ({ block := (ad.add (j * 2)).block, off := (ad.add (j * 2)).off + 1 } : Addr) = ad.add (j * 2 + 1) := by simp [Addr.add]; split <;> simp <;> omega
        rw [e]; exact c1
      go_wp2_with fail
      clear c0 c1 c2 b1
      generalize wr.alloc (.cells #[.int .u64 (b : Int), .slice Ai l.length ci] 75) = x0 at *
      generalize wr.heap.size = P at *
      refine nop_wp (ext_start (by kernel_rfl) calm_nop (fun hQ => ?_))
      have h5 := h4.drew
      have hB2 := hB1.drew
      generalize x0.drew = x at *
      have X0 : ∀ W, Ext x W → W.cell? ⟨P, 0, none⟩ = some (.int .u64 (b : Int)) := fun W h => ((h5.below h h5.lt).cell 0).trans rfl
      have X1 : ∀ W, Ext x W → W.cell? ⟨P, 1, none⟩ = some (.slice Ai l.length ci) := fun W h => ((h5.below h h5.lt).cell 1).trans rfl
      clear h4 h5 hB1 hB
      refine ext_take (i := 0) (oi := ?oia0) (v := ?va0) ?hia0 (by kernel_rfl) (by kernel_rfl) (by kernel_rfl) hQ ?hwa0 ?hya0 ?resta0
      case hia0 => simp only [List.getElem?_toArray, List.getElem?_cons_zero]; rfl
      case hwa0 => rfl
      case hya0 => intro W hW; go_simp; with_reducible rfl
      simp only [Act.put, List.setIfInBounds_toArray, List.set_cons_zero, List.set_cons_succ]
      refine ext_take (i := 1) (oi := ?oia1) (v := ?va1) ?hia1 (by kernel_rfl) (by kernel_rfl) (by kernel_rfl) hQ ?hwa1 ?hya1 ?resta1
      case hia1 => simp only [List.getElem?_toArray, List.getElem?_cons_zero, List.getElem?_cons_succ]; rfl
      case hwa1 => rfl
      case hya1 => intro W hW; go_simp; with_reducible rfl
      simp only [Act.put, List.setIfInBounds_toArray, List.set_cons_zero, List.set_cons_succ]
      refine ext_step (i := 2) (oi := ?oia2) (by kernel_rfl) ?hia2 ?hwa2 (fun K hK => ?_)
      case hia2 => simp only [List.getElem?_toArray, List.getElem?_cons_zero, List.getElem?_cons_succ]; rfl
      case hwa2 => rfl
      go_simp
      refine (base26_any j _ (by omega)).mono ?_; rintro e wq ⟨rfl, rfl⟩; refine hK _ _ (Ext.refl _) ?_
      try simp only [Act.put, List.setIfInBounds_toArray, List.set_cons_zero, List.set_cons_succ]
      refine ext_step (i := 3) (oi := ?oia3) (by kernel_rfl) ?hia3 ?hwa3 (fun K hK => ?_)
      case hia3 => simp only [List.getElem?_toArray, List.getElem?_cons_zero, List.getElem?_cons_succ]; rfl
      case hwa3 => rfl
      go_simp
      refine (fits_any b Ai l.length ci (16777216 * (j + 1)) 4096 _).mono ?_; rintro e w3 ⟨rfl, b3⟩; refine hK _ _ b3 ?_; replace hB2 := hB2.trans (b3.mono hB2.size)
      try simp only [Act.put, List.setIfInBounds_toArray, List.set_cons_zero, List.set_cons_succ]
      refine ext_take (i := 4) (oi := ?oia4) (v := ?va4) ?hia4 (by kernel_rfl) (by kernel_rfl) (by kernel_rfl) hQ ?hwa4 ?hya4 ?resta4
      case hia4 => simp only [List.getElem?_toArray, List.getElem?_cons_zero, List.getElem?_cons_succ]; rfl
      case hwa4 => rfl
      case hya4 => intro W hW; go_simp; with_reducible rfl
      simp only [Act.put, List.setIfInBounds_toArray, List.set_cons_zero, List.set_cons_succ]
      refine wpAnyH_done (by kernel_rfl) ?_ _

      simp only [NoP]
      clear X0 X1
      cases hf : fitB b (16777216 * (j + 1)) l.length 4096
      · have HE := Lib.hid (show stB L = false from by
          have h := HT.out
          simp only [stkB, hf, Bool.false_and] at h
          simp [stB, ← h])
        clear hf
        go_wp2_with fail
        go_ret
        exact ⟨by rw [HE.out]; rfl, hB2⟩
      · have HN := Lib.hid (show stkB (j + 1) (L.drop (j + 1)) = stkB 0 L from by
          have h := HT.out
          simpa only [stkB, hf, Bool.true_and] using h)
        clear hf
        go_wp2_with fail
        go_roundw
        case rel => exact ⟨j + 1, by omega, by go_num, HN.out, hB2⟩
        case measure => simp [intOf]; omega
    · have HJ := Lib.hid (show stkB 0 L = true from by
        rw [← ht, List.drop_of_length_le (by rw [HL.out]; omega)]; rfl)
      clear ht
      by_cases h0 : 0 < n
      · have d1 : decide ((n : Int) > 0) = true := by simp; omega
        by_cases h2 : n ≤ 16
        · have d2 : decide ((n : Int) ≤ 16) = true := by simp; omega
          have HE := Lib.hid (show stB L = true from by simp [stB, HJ.out, HL.out]; omega)
          go_wp2_with fail
          go_ret
          exact ⟨by rw [HE.out]; rfl, hB⟩
        · have d2 : decide ((n : Int) ≤ 16) = false := by simp; omega
          have HE := Lib.hid (show stB L = false from by simp [stB, HJ.out, HL.out]; omega)
          go_wp2_with fail
          go_ret
          exact ⟨by rw [HE.out]; rfl, hB⟩
      · have d1 : decide ((n : Int) > 0) = false := by simp; omega
        have HE := Lib.hid (show stB L = false from by simp [stB, HL.out]; omega)
        go_wp2_with fail
        go_ret
        exact ⟨by rw [HE.out]; rfl, hB⟩

end Go.Proofs.Ytldaijkcmnnjpaa
