/- The contracts of the reference's SameRegion and SameRegions. -/
import Derived.Test.YtponceakelimeaaMem8
namespace Go.Proofs.Ytponceakelimeaa
open Go.RowKit Wire
set_option linter.unusedVariables false

def smR (p q : Nat × List UInt8) : Bool := decide (p.1 = q.1) && (p.2 == q.2)
theorem smR_iff {p q : Nat × List UInt8} : smR p q = true ↔ p = q := by
  rcases p with ⟨a, l⟩; rcases q with ⟨b, m⟩
  simp [smR]
theorem upto_eq {α : Type} {l m : List α} {j : Nat} {a b : α} (h1 : l[j]? = some a) (h2 : m[j]? = some b) (h : l.take j = m.take j) (e : a = b) : l.take (j + 1) = m.take (j + 1) := by
  rw [List.take_add_one, List.take_add_one, h1, h2, h, e]
theorem at_ne {α : Type} {l m : List α} {j : Nat} {a b : α} (h1 : l[j]? = some a) (h2 : m[j]? = some b) (e : a ≠ b) : l ≠ m := by
  rintro rfl
  rw [h1] at h2
  injection h2 with h2
  exact e h2

set_option maxRecDepth 100000 in
set_option maxHeartbeats 1600000 in
theorem sameRegion_any (b : Nat) (A : Option Addr) (n c : Nat) (l : List UInt8) (b2 : Nat) (A2 : Option Addr) (n2 c2 : Nat) (l2 : List UInt8) (w : World) (hr : Rb w A n l) (hs : Rb w A2 n2 l2) :
    Calls Try.prog 16 #[rgn b A n c, rgn b2 A2 n2 c2] w fun e w' => e = .returned (.bool (smR (b, l) (b2, l2))) ∧ Below w.heap.size w w' := by
  have hB1 := (Below.refl w.heap.size w).alloc (Nat.le_refl _) (.cells #[.int .u64 (b : Int), .slice A n c] 25)
  have hB2 := hB1.alloc hB1.size (.cells #[.int .u64 (b2 : Int), .slice A2 n2 c2] 25)
  have K1 := cvS c (hr.mv hB2)
  have K2 := cvS c2 (hs.mv hB2)
  clear hr hs
  by_cases g : b = b2
  rotate_left
  · have e0 : ((b : Int) == (b2 : Int)) = false := by rw [beq_eq_false_iff_ne]; omega
    have HD := Lib.hid (show smR (b, l) (b2, l2) = false from by simp [smR, g])
    clear g
    go_enter Try.func16, Try.ntmps16
    go_wp2_with fail
    go_ret
    exact ⟨by rw [HD.out]; rfl, hB2⟩
  subst g
  have HD := Lib.hid (show smR (b, l) (b, l2) = (l == l2) from by simp [smR])
  go_enter Try.func16, Try.ntmps16
  go_wp2_with fail
  go_ret
  exact ⟨by rw [HD.out]; rfl, hB2⟩

set_option maxRecDepth 100000 in
set_option maxHeartbeats 3200000 in
theorem sameRegions_any (A : Option Addr) (n c : Nat) (L : List (Nat × List UInt8)) (A2 : Option Addr) (n2 c2 : Nat) (L2 : List (Nat × List UInt8)) (w : World) (hr : RdR w A n L) (hs : RdR w A2 n2 L2) (hn : n ≤ 9223372036854775807) :
    Calls Try.prog 17 #[.slice A n c, .slice A2 n2 c2] w fun e w' => e = .returned (.bool (decide (L = L2))) ∧ Below w.heap.size w w' := by
  have HL := Lib.hid hr.1
  have HM := Lib.hid hs.1
  by_cases hnm : n = n2
  rotate_left
  · have HD := Lib.hid (show decide (L = L2) = false from by rw [decide_eq_false_iff_not]; rintro rfl; exact hnm (HL.out.symm.trans HM.out))
    have dn : ((n : Int) != (n2 : Int)) = true := by rw [bne_iff_ne]; omega
    go_enter Try.func17, Try.ntmps17
    go_wp2_with fail
    go_ret
    exact ⟨by rw [HD.out]; rfl, Below.refl _ _⟩
  subst hnm
  go_enter Try.func17, Try.ntmps17
  go_wp2_with fail
  go_loopw [5] (fun i wr => ∃ j : Nat, j ≤ n ∧ i = .int .i64 (j : Int) ∧ L.take j = L2.take j ∧ Below w.heap.size w wr) (fun i _ => n - (intOf i).toNat)
  case atStart => exact ⟨0, by omega, rfl, by simp, Below.refl _ _⟩
  case round =>
    obtain ⟨j, hj, rfl, ht, hB⟩ := hrel
    have HT := Lib.hid ht
    clear ht
    by_cases hlt : j < n
    · obtain ⟨ad, b, l, Ai, ci, hA, hab, hz, c0, c1, _, rl, _⟩ := hr.at_ hlt
      obtain ⟨ad2, b2, l2, Aj, cj, hA2, hab2, hy, d0, d1, _, sl, _⟩ := hs.at_ hlt
      have HZ := Lib.hid (And.intro hz hy)
      have HA := Lib.hid hA
      have HA2 := Lib.hid hA2
      clear hz hy
      subst hA hA2
      replace c0 := (hB.cell (by rw [block_of_add]; exact hab)).trans c0
      replace c1 := (hB.cell (by rw [block_of_add]; exact hab)).trans c1
      replace d0 := (hB.cell (by rw [block_of_add]; exact hab2)).trans d0
      replace d1 := (hB.cell (by rw [block_of_add]; exact hab2)).trans d1
      have c2 : wr.cell? { block := (ad.add (j * 2)).block, off := (ad.add (j * 2)).off + 1 } = some (.slice Ai l.length ci) := by
        have e : ({ block := (ad.add (j * 2)).block, off := (ad.add (j * 2)).off + 1 } : Addr) = ad.add (j * 2 + 1) := by simp [Addr.add]; split <;> simp <;> omega
        rw [e]; exact c1

      have d2 : wr.cell? { block := (ad2.add (j * 2)).block, off := (ad2.add (j * 2)).off + 1 } = some (.slice Aj l2.length cj) := by
        have e : ({ block := (ad2.add (j * 2)).block, off := (ad2.add (j * 2)).off + 1 } : Addr) = ad2.add (j * 2 + 1) := by simp [Addr.add]; split <;> simp <;> omega
        rw [e]; exact d1

      go_wp2_with fail
      refine nop_wp (ext_start (by kernel_rfl) calm_nop (fun hQ => ?_))
      have hB2 := hB.drew
      have R1 := rl.mv hB2
      have S1 := sl.mv hB2
      replace c0 : wr.drew.cell? _ = _ := c0
      replace c2 : wr.drew.cell? _ = _ := c2
      replace d0 : wr.drew.cell? _ = _ := d0
      replace d2 : wr.drew.cell? _ = _ := d2
      clear hB
      generalize wr.drew = x at *
      have hx := hB2.size
      have X0 : ∀ W, Ext x W → W.cell? (ad.add (j * 2)) = some (.int .u64 (b : Int)) := fun W h => (Below.cell h (by rw [block_of_add]; omega)).trans c0
      have X1 : ∀ W, Ext x W → W.cell? { block := (ad.add (j * 2)).block, off := (ad.add (j * 2)).off + 1 } = some (.slice Ai l.length ci) := fun W h => (Below.cell h (by show (ad.add (j * 2)).block < _; rw [block_of_add]; omega)).trans c2
      have Y0 : ∀ W, Ext x W → W.cell? (ad2.add (j * 2)) = some (.int .u64 (b2 : Int)) := fun W h => (Below.cell h (by rw [block_of_add]; omega)).trans d0
      have Y1 : ∀ W, Ext x W → W.cell? { block := (ad2.add (j * 2)).block, off := (ad2.add (j * 2)).off + 1 } = some (.slice Aj l2.length cj) := fun W h => (Below.cell h (by show (ad2.add (j * 2)).block < _; rw [block_of_add]; omega)).trans d2
      clear c0 c1 c2 d0 d1 d2
      refine ext_take (i := 0) (oi := ?oia0) (v := ?va0) ?hia0 (by kernel_rfl) (by kernel_rfl) (by kernel_rfl) hQ ?hwa0 ?hya0 ?resta0
      case hia0 => simp only [List.getElem?_toArray, List.getElem?_cons_zero]; rfl
      case hwa0 => rfl
      case hya0 => intro W hW; go_simp; with_reducible rfl
      simp only [Act.put, List.setIfInBounds_toArray, List.set_cons_zero, List.set_cons_succ]
      refine ext_take (i := 1) (oi := ?oia1) (v := ?va1) ?hia1 (by kernel_rfl) (by kernel_rfl) (by kernel_rfl) hQ ?hwa1 ?hya1 ?resta1
      case hia1 => simp only [List.getElem?_toArray, List.getElem?_cons_zero, List.getElem?_cons_succ]; rfl
      case hwa1 => rfl
      case hya1 => intro W hW; go_simp; with_reducible rfl
      simp only [Act.put, List.setIfInBounds_toArray, List.set_cons_zero, List.set_cons_succ]
      refine ext_take (i := 2) (oi := ?oia2) (v := ?va2) ?hia2 (by kernel_rfl) (by kernel_rfl) (by kernel_rfl) hQ ?hwa2 ?hya2 ?resta2
      case hia2 => simp only [List.getElem?_toArray, List.getElem?_cons_zero, List.getElem?_cons_succ]; rfl
      case hwa2 => rfl
      case hya2 => intro W hW; go_simp; with_reducible rfl
      simp only [Act.put, List.setIfInBounds_toArray, List.set_cons_zero, List.set_cons_succ]
      refine ext_take (i := 3) (oi := ?oia3) (v := ?va3) ?hia3 (by kernel_rfl) (by kernel_rfl) (by kernel_rfl) hQ ?hwa3 ?hya3 ?resta3
      case hia3 => simp only [List.getElem?_toArray, List.getElem?_cons_zero, List.getElem?_cons_succ]; rfl
      case hwa3 => rfl
      case hya3 => intro W hW; go_simp; with_reducible rfl
      simp only [Act.put, List.setIfInBounds_toArray, List.set_cons_zero, List.set_cons_succ]
      refine ext_take (i := 4) (oi := ?oia4) (v := ?va4) ?hia4 (by kernel_rfl) (by kernel_rfl) (by kernel_rfl) hQ ?hwa4 ?hya4 ?resta4
      case hia4 => simp only [List.getElem?_toArray, List.getElem?_cons_zero, List.getElem?_cons_succ]; rfl
      case hwa4 => rfl
      case hya4 => intro W hW; go_simp; with_reducible rfl
      simp only [Act.put, List.setIfInBounds_toArray, List.set_cons_zero, List.set_cons_succ]
      refine ext_take (i := 5) (oi := ?oia5) (v := ?va5) ?hia5 (by kernel_rfl) (by kernel_rfl) (by kernel_rfl) hQ ?hwa5 ?hya5 ?resta5
      case hia5 => simp only [List.getElem?_toArray, List.getElem?_cons_zero, List.getElem?_cons_succ]; rfl
      case hwa5 => rfl
      case hya5 => intro W hW; go_simp; with_reducible rfl
      simp only [Act.put, List.setIfInBounds_toArray, List.set_cons_zero, List.set_cons_succ]
      refine ext_take (i := 6) (oi := ?oia6) (v := ?va6) ?hia6 (by kernel_rfl) (by kernel_rfl) (by kernel_rfl) hQ ?hwa6 ?hya6 ?resta6
      case hia6 => simp only [List.getElem?_toArray, List.getElem?_cons_zero, List.getElem?_cons_succ]; rfl
      case hwa6 => rfl
      case hya6 => intro W hW; go_simp; with_reducible rfl
      simp only [Act.put, List.setIfInBounds_toArray, List.set_cons_zero, List.set_cons_succ]
      refine ext_take (i := 7) (oi := ?oia7) (v := ?va7) ?hia7 (by kernel_rfl) (by kernel_rfl) (by kernel_rfl) hQ ?hwa7 ?hya7 ?resta7
      case hia7 => simp only [List.getElem?_toArray, List.getElem?_cons_zero, List.getElem?_cons_succ]; rfl
      case hwa7 => rfl
      case hya7 => intro W hW; go_simp; with_reducible rfl
      simp only [Act.put, List.setIfInBounds_toArray, List.set_cons_zero, List.set_cons_succ]
      refine ext_step (i := 8) (oi := ?oia8) (by kernel_rfl) ?hia8 ?hwa8 (fun K hK => ?_)
      case hia8 => simp only [List.getElem?_toArray, List.getElem?_cons_zero, List.getElem?_cons_succ]; rfl
      case hwa8 => rfl
      go_simp
      refine (sameRegion_any b Ai l.length ci l b2 Aj l2.length cj l2 _ R1 S1).mono ?_; rintro e w3 ⟨rfl, b3⟩; refine hK _ _ b3 ?_; replace hB2 := hB2.trans (b3.mono hx)
      try simp only [Act.put, List.setIfInBounds_toArray, List.set_cons_zero, List.set_cons_succ]
      refine ext_take (i := 9) (oi := ?oia9) (v := ?va9) ?hia9 (by kernel_rfl) (by kernel_rfl) (by kernel_rfl) hQ ?hwa9 ?hya9 ?resta9
      case hia9 => simp only [List.getElem?_toArray, List.getElem?_cons_zero, List.getElem?_cons_succ]; rfl
      case hwa9 => rfl
      case hya9 => intro W hW; go_simp; with_reducible rfl
      simp only [Act.put, List.setIfInBounds_toArray, List.set_cons_zero, List.set_cons_succ]
      refine wpAnyH_done (by kernel_rfl) ?_ _

      simp only [NoP]
      clear X0 X1 Y0 Y1
      cases hf : smR (b, l) (b2, l2)
      · have HE := Lib.hid (show decide (L = L2) = false from by
          rw [decide_eq_false_iff_not]
          refine at_ne HZ.out.1 HZ.out.2 (fun e => ?_)
          rw [smR_iff.2 e] at hf
          cases hf)
        clear hf
        go_wp2_with fail
        go_ret
        exact ⟨by rw [HE.out]; rfl, hB2⟩
      · have HN := Lib.hid (upto_eq HZ.out.1 HZ.out.2 HT.out (smR_iff.1 hf))
        clear hf
        go_wp2_with fail
        go_roundw
        case rel => exact ⟨j + 1, by omega, by go_num, HN.out, hB2⟩
        case measure => simp [intOf]; omega
    · have HD := Lib.hid (show decide (L = L2) = true from by
        rw [decide_eq_true_eq, ← List.take_of_length_le (l := L) (i := j) (by rw [HL.out]; omega), HT.out, List.take_of_length_le (by rw [HM.out]; omega)])
      clear HT
      go_wp2_with fail
      go_ret
      exact ⟨by rw [HD.out]; rfl, hB⟩

end Go.Proofs.Ytponceakelimeaa
