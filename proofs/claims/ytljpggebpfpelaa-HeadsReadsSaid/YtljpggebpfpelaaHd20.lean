/- SameList and SameChains. Each states its conditions. -/
import Derived.Test.YtljpggebpfpelaaHd12
import Derived.BigQuiet
namespace Go.Proofs.Ytljpggebpfpelaa
open Go.RowKit Wire
set_option linter.unusedVariables false

set_option maxRecDepth 100000 in
set_option maxHeartbeats 3200000 in
theorem sameList_any (A : Option Addr) (n c : Nat) (L : List Nat) (A2 : Option Addr) (n2 c2 : Nat) (L2 : List Nat) (w : World) (hr : RdU w A n L) (hs : RdU w A2 n2 L2) (hn : n ≤ 1000000) :
    Calls Try.prog 45 #[.slice A n c, .slice A2 n2 c2] w fun e w' => e = .returned (.bool (decide (L = L2))) ∧ Below w.heap.size w w' := by
  have HL := Lib.hid (And.intro hr.len hs.len)
  go_enter Try.func45, Try.ntmps45
  by_cases hne : n = n2
  rotate_left
  · have d0 : ((n : Int) != (n2 : Int)) = true := by rw [bne_iff_ne]; omega
    have HE := Lib.hid (show decide (L = L2) = false from by
      rw [decide_eq_false_iff_not]
      intro e
      have h := congrArg List.length e
      rw [HL.out.1, HL.out.2] at h
      exact hne h)
    clear hne
    go_wp2_with fail
    go_ret
    exact ⟨by rw [HE.out]; rfl, Below.refl _ _⟩
  subst hne
  go_wp2_with fail
  go_loopw [5] (fun i wr => ∃ j : Nat, j ≤ n ∧ i = .int .i64 (j : Int) ∧ L.take j = L2.take j ∧ Below w.heap.size w wr) (fun i _ => n - (intOf i).toNat)
  case atStart => exact ⟨0, by omega, rfl, rfl, Below.refl _ _⟩
  case round =>
    obtain ⟨j, hj, rfl, ht, hB⟩ := hrel
    have HT := Lib.hid ht
    clear ht
    by_cases hlt : j < n
    · obtain ⟨ad, x, hA, _, hz, c0, x1⟩ := (RdU.mv hr hB).at_ hlt
      obtain ⟨ad2, y, hA2, _, hy, d0, y1⟩ := (RdU.mv hs hB).at_ hlt
      have HZ := Lib.hid (And.intro hz hy)
      clear hz hy
      subst hA hA2
      by_cases hne : x = y
      rotate_left
      · have HE := Lib.hid (show decide (L = L2) = false from by
          rw [decide_eq_false_iff_not]
          exact at_ne HZ.out.1 HZ.out.2 hne)
        have hne2 : ¬ (x : Int) = (y : Int) := by omega
        go_wp2_with fail
        go_quiet (fail)
        go_wp2_with fail
        go_ret
        exact ⟨by rw [HE.out]; rfl, below_drewN hB _⟩
      subst hne
      have HN := Lib.hid (upto_eq HZ.out.1 HZ.out.2 HT.out rfl)
      go_wp2_with fail
      go_quiet (fail)
      go_wp2_with fail
      go_roundw
      case rel => exact ⟨j + 1, by omega, by go_num, HN.out, below_drewN hB _⟩
      case measure => simp [intOf]; omega
    · have HE := Lib.hid (show decide (L = L2) = true from by
        have h := HT.out
        rw [List.take_of_length_le (by rw [HL.out.1]; omega), List.take_of_length_le (by rw [HL.out.2]; omega)] at h
        rw [decide_eq_true_eq]; exact h)
      go_wp2_with fail
      go_ret
      exact ⟨by rw [HE.out]; rfl, hB⟩

set_option maxRecDepth 100000 in
set_option maxHeartbeats 3200000 in
theorem sameChains_any (A : Option Addr) (n c : Nat) (L : List (List Nat)) (A2 : Option Addr) (n2 c2 : Nat) (L2 : List (List Nat)) (w : World) (hr : RdC w A n L) (hs : RdC w A2 n2 L2) (hn : n ≤ 1000000) (hrb : ∀ l ∈ L, l.length ≤ 1000000) :
    Calls Try.prog 18 #[.slice A n c, .slice A2 n2 c2] w fun e w' => e = .returned (.bool (decide (L = L2))) ∧ Below w.heap.size w w' := by
  have HL := Lib.hid (And.intro hr.1 hs.1)
  go_enter Try.func18, Try.ntmps18
  by_cases hne : n = n2
  rotate_left
  · have d0 : ((n : Int) != (n2 : Int)) = true := by rw [bne_iff_ne]; omega
    have HE := Lib.hid (show decide (L = L2) = false from by
      rw [decide_eq_false_iff_not]
      intro e
      have h := congrArg List.length e
      rw [HL.out.1, HL.out.2] at h
      exact hne h)
    clear hne
    go_wp2_with fail
    go_ret
    exact ⟨by rw [HE.out]; rfl, Below.refl _ _⟩
  subst hne
  go_wp2_with fail
  go_loopw [5] (fun i wr => ∃ j : Nat, j ≤ n ∧ i = .int .i64 (j : Int) ∧ L.take j = L2.take j ∧ Below w.heap.size w wr) (fun i _ => n - (intOf i).toNat)
  case atStart => exact ⟨0, by omega, rfl, rfl, Below.refl _ _⟩
  case round =>
    obtain ⟨j, hj, rfl, ht, hB⟩ := hrel
    have HT := Lib.hid ht
    clear ht
    by_cases hlt : j < n
    · obtain ⟨ad, Ai, ci, li, hA, hab, hz, c0, hci, rl⟩ := hr.at_ hlt
      obtain ⟨ad2, Aj, cj, lj, hA2, hab2, hy, d0, hcj, sl⟩ := hs.at_ hlt
      by_cases hlen : 1000000 < li.length
      · exact absurd (hrb _ (List.mem_of_getElem? hz)) (by omega)
      have HZ := Lib.hid (And.intro hz hy)
      clear hz hy
      subst hA hA2
      replace c0 := (hB.cell (by rw [block_of_add]; exact hab)).trans c0
      replace d0 := (hB.cell (by rw [block_of_add]; exact hab2)).trans d0
      go_wp2_with fail
      refine nop_wp (ext_start (by kernel_rfl) calm_nop (fun hQ => ?_))
      have hB2 := hB.drew
      have R1 := rl.mv hB2
      have S1 := sl.mv hB2
      replace c0 : wr.drew.cell? _ = _ := c0
      replace d0 : wr.drew.cell? _ = _ := d0
      clear hB
      generalize wr.drew = x at *
      have hx := hB2.size
      have X0 : ∀ W, Ext x W → W.cell? (ad.add j) = some (.slice Ai li.length ci) := fun W h => (Below.cell h (by rw [block_of_add]; omega)).trans c0
      have Y0 : ∀ W, Ext x W → W.cell? (ad2.add j) = some (.slice Aj lj.length cj) := fun W h => (Below.cell h (by rw [block_of_add]; omega)).trans d0
      clear c0 d0
      refine ext_take (i := 0) (oi := ?oia0) (v := ?va0) ?hia0 (by kernel_rfl) (by kernel_rfl) (by kernel_rfl) hQ ?hwa0 ?hya0 ?resta0
      case hia0 => simp only [List.getElem?_toArray, List.getElem?_cons_zero]; rfl
      case hwa0 => rfl
      case hya0 => intro W hW; go_simp; with_reducible rfl
      simp only [Act.put, List.setIfInBounds_toArray, List.set_cons_zero, List.set_cons_succ]
      refine ext_take (i := 1) (oi := ?oia1) (v := ?va1) ?hia1 (by kernel_rfl) (by kernel_rfl) (by kernel_rfl) hQ ?hwa1 ?hya1 ?resta1
      case hia1 => simp only [List.getElem?_toArray, List.getElem?_cons_zero, List.getElem?_cons_succ]; rfl
      case hwa1 => rfl
      case hya1 => intro W hW; go_simp; with_reducible rfl
      simp only [Act.put, List.setIfInBounds_toArray, List.set_cons_zero, List.set_cons_succ]
      refine ext_take (i := 2) (oi := ?oia2) (v := ?va2) ?hia2 (by kernel_rfl) (by kernel_rfl) (by kernel_rfl) hQ ?hwa2 ?hya2 ?resta2
      case hia2 => simp only [List.getElem?_toArray, List.getElem?_cons_zero, List.getElem?_cons_succ]; rfl
      case hwa2 => rfl
      case hya2 => intro W hW; go_simp; with_reducible rfl
      simp only [Act.put, List.setIfInBounds_toArray, List.set_cons_zero, List.set_cons_succ]
      refine ext_take (i := 3) (oi := ?oia3) (v := ?va3) ?hia3 (by kernel_rfl) (by kernel_rfl) (by kernel_rfl) hQ ?hwa3 ?hya3 ?resta3
      case hia3 => simp only [List.getElem?_toArray, List.getElem?_cons_zero, List.getElem?_cons_succ]; rfl
      case hwa3 => rfl
      case hya3 => intro W hW; go_simp; with_reducible rfl
      simp only [Act.put, List.setIfInBounds_toArray, List.set_cons_zero, List.set_cons_succ]
      refine ext_take (i := 4) (oi := ?oia4) (v := ?va4) ?hia4 (by kernel_rfl) (by kernel_rfl) (by kernel_rfl) hQ ?hwa4 ?hya4 ?resta4
      case hia4 => simp only [List.getElem?_toArray, List.getElem?_cons_zero, List.getElem?_cons_succ]; rfl
      case hwa4 => rfl
      case hya4 => intro W hW; go_simp; with_reducible rfl
      simp only [Act.put, List.setIfInBounds_toArray, List.set_cons_zero, List.set_cons_succ]
      refine ext_take (i := 5) (oi := ?oia5) (v := ?va5) ?hia5 (by kernel_rfl) (by kernel_rfl) (by kernel_rfl) hQ ?hwa5 ?hya5 ?resta5
      case hia5 => simp only [List.getElem?_toArray, List.getElem?_cons_zero, List.getElem?_cons_succ]; rfl
      case hwa5 => rfl
      case hya5 => intro W hW; go_simp; with_reducible rfl
      simp only [Act.put, List.setIfInBounds_toArray, List.set_cons_zero, List.set_cons_succ]
      refine ext_take (i := 6) (oi := ?oia6) (v := ?va6) ?hia6 (by kernel_rfl) (by kernel_rfl) (by kernel_rfl) hQ ?hwa6 ?hya6 ?resta6
      case hia6 => simp only [List.getElem?_toArray, List.getElem?_cons_zero, List.getElem?_cons_succ]; rfl
      case hwa6 => rfl
      case hya6 => intro W hW; go_simp; with_reducible rfl
      simp only [Act.put, List.setIfInBounds_toArray, List.set_cons_zero, List.set_cons_succ]
      refine ext_take (i := 7) (oi := ?oia7) (v := ?va7) ?hia7 (by kernel_rfl) (by kernel_rfl) (by kernel_rfl) hQ ?hwa7 ?hya7 ?resta7
      case hia7 => simp only [List.getElem?_toArray, List.getElem?_cons_zero, List.getElem?_cons_succ]; rfl
      case hwa7 => rfl
      case hya7 => intro W hW; go_simp; with_reducible rfl
      simp only [Act.put, List.setIfInBounds_toArray, List.set_cons_zero, List.set_cons_succ]
      refine ext_step (i := 8) (oi := ?oia8) (by kernel_rfl) ?hia8 ?hwa8 (fun K hK => ?_)
      case hia8 => simp only [List.getElem?_toArray, List.getElem?_cons_zero, List.getElem?_cons_succ]; rfl
      case hwa8 => rfl
      go_simp
      refine (sameList_any Ai li.length ci li Aj lj.length cj lj _ R1 S1 (by omega)).mono ?_; rintro e w3 ⟨rfl, b3⟩; refine hK _ _ b3 ?_; replace hB2 := hB2.trans (b3.mono hx)
      try simp only [Act.put, List.setIfInBounds_toArray, List.set_cons_zero, List.set_cons_succ]
      refine ext_take (i := 9) (oi := ?oia9) (v := ?va9) ?hia9 (by kernel_rfl) (by kernel_rfl) (by kernel_rfl) hQ ?hwa9 ?hya9 ?resta9
      case hia9 => simp only [List.getElem?_toArray, List.getElem?_cons_zero, List.getElem?_cons_succ]; rfl
      case hwa9 => rfl
      case hya9 => intro W hW; go_simp; with_reducible rfl
      simp only [Act.put, List.setIfInBounds_toArray, List.set_cons_zero, List.set_cons_succ]
      refine wpAnyH_done (by kernel_rfl) ?_ _
      simp only [NoP]
      clear X0 Y0
      by_cases hne : li = lj
      rotate_left
      · have HE := Lib.hid (show decide (L = L2) = false from by
          rw [decide_eq_false_iff_not]
          exact at_ne HZ.out.1 HZ.out.2 hne)
        rw [decide_eq_false hne]
        clear hne
        go_wp2_with fail
        go_ret
        exact ⟨by rw [HE.out]; rfl, hB2⟩
      have HN := Lib.hid (upto_eq HZ.out.1 HZ.out.2 HT.out hne)
      rw [decide_eq_true hne]
      clear hne
      go_wp2_with fail
      go_roundw
      case rel => exact ⟨j + 1, by omega, by go_num, HN.out, hB2⟩
      case measure => simp [intOf]; omega
    · have HE := Lib.hid (show decide (L = L2) = true from by
        have h := HT.out
        rw [List.take_of_length_le (by rw [HL.out.1]; omega), List.take_of_length_le (by rw [HL.out.2]; omega)] at h
        rw [decide_eq_true_eq]; exact h)
      go_wp2_with fail
      go_ret
      exact ⟨by rw [HE.out]; rfl, hB⟩

end Go.Proofs.Ytljpggebpfpelaa
