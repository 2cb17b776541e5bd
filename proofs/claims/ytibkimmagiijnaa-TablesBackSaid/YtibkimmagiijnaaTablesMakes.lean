/- The walk of TablesMakes. -/
import Derived.Test.YtibkimmagiijnaaTab12
import Derived.Test.YtibkimmagiijnaaTab8
namespace Go.Proofs.Ytibkimmagiijnaa
open Go.RowKit Wire
set_option linter.unusedVariables false
theorem vU_one {l : List Nat} : ∀ u ∈ l.map vU, u.oneCell' = true := by
  intro u hu
  obtain ⟨x, _, rfl⟩ := List.mem_map.1 hu
  rfl
theorem mkL_len (v : List Nat) : (mkL v).length ≤ 200 := by
  unfold mkL
  split
  · rename_i h
    have key : ∀ (r : List Nat) (i p : Nat), (mdR i p r).length ≤ r.length := by
      intro r
      induction r with
      | nil => intro i p; simp [mdR]
      | cons x r ih =>
        intro i p
        rw [mdR]
        split
        · have := ih (i + 1) x; simp only [List.length_cons]; omega
        · have := ih (i + 1) x; simp only [List.length_cons]; omega
    have hl : v.length ≤ 200 := by
      unfold mkE cnE at h
      split at h <;> omega
    rcases v with _ | ⟨x, r⟩
    · simp [made]
    · rw [made, List.length_cons]; have := key r 1 x; simp only [List.length_cons] at hl; omega
  · simp
theorem rwR_len (l : List UInt8) : ∀ (k a : Nat), (rwR l k a).2.1.length ≤ k ∧ ∀ p ∈ (rwR l k a).2.1, p.2 < 18446744073709551616 := by
  intro k
  induction k with
  | zero => intro a; simp [rwR]
  | succ k ih =>
    intro a
    rw [rwR]
    split
    · simp
    · split
      · simp
      · rename_i h1 h2
        obtain ⟨g1, g2⟩ := ih (a + (uvR l (a : Int)).2.2 + (uvR l ((a + (uvR l (a : Int)).2.2 : Nat) : Int)).2.2)
        refine ⟨by simp only [List.length_cons]; omega, fun p hp => ?_⟩
        rcases List.mem_cons.1 hp with rfl | hp
        · exact (uvR_le (by simpa using h2)).1
        · exact g2 p hp
theorem dc_ok0 {l : List UInt8} {a k : Int} (h : dcE l a k = 0) : ckB l.length a = true ∧ (1 ≤ k ∧ k ≤ 200) ∧ uvE l a k.toNat = 0 ∧ (dcW l a).1 = 0 ∧ fnB (smP 0 (dcW l a).2.1) k = true := by
  unfold dcE at h
  split at h
  · rename_i h1
    split at h
    · rename_i h2
      split at h
      · rename_i h3; exact absurd h h3
      · rename_i h3
        split at h
        · rename_i h4; exact absurd h h4
        · rename_i h4
          split at h
          · rename_i h5; exact ⟨h1, h2, by simpa using h3, by simpa using h4, h5⟩
          · omega
    · omega
  · omega
theorem dcL_len (l : List UInt8) (a k : Int) (hl : l.length ≤ 1000) : (dcL l a k).length ≤ 1000 := by
  unfold dcL
  split
  · rename_i h
    obtain ⟨_, h2, h3, _⟩ := dc_ok0 h
    have h4 := (uv_zero h3).2.2
    rw [smP_len]
    have := (rwR_len l (uvR l a).2.1 (a.toNat + (uvR l a).2.2)).1
    unfold dcW
    omega
  · simp
theorem dcL_fit (l : List UInt8) (a k : Int) (hl : l.length ≤ 1000) : ∀ q ∈ dcL l a k, fitR q := by
  unfold dcL
  split
  · rename_i h
    obtain ⟨_, h2, h3, _⟩ := dc_ok0 h
    have h4 := (uv_zero h3).2.2
    obtain ⟨g1, g2⟩ := rwR_len l (uvR l a).2.1 (a.toNat + (uvR l a).2.2)
    exact smP_fit g2 (by have : (dcW l a).2.1.length ≤ (uvR l a).2.1 := g1; omega)
  · simp
theorem RdB_of {w : World} {A : Option Addr} {n B : Nat} {l : List UInt8} (h : Rb w A n l) (hB : w.heap.size ≤ B) : RdB w B A n l := Reads.more h hB

set_option maxRecDepth 100000 in
set_option maxHeartbeats 8000000 in
theorem tablesMakes_walk (w : World) (A : Option Addr) (n c : Nat) (v : List Nat) (hr : RdU w A n v) (hc : n ≤ c ∧ c ≤ 9223372036854775807) (A2 : Option Addr) (n2 c2 : Nat) (l : List UInt8) (a : Int) (hl : Rb w A2 n2 l) (hc2 : n2 ≤ c2 ∧ c2 ≤ 9223372036854775807) (ha : -9223372036854775808 ≤ a ∧ a ≤ 9223372036854775807) (k : Int) (hk : -9223372036854775808 ≤ k ∧ k ≤ 9223372036854775807) :
    Calls Try.prog 6 #[.slice A n c, cur A2 n2 c2 a, .int .i64 k] w fun e w' => e = .returned (.bool true) ∧ Below w.heap.size w w' := by
  have hB := (Below.refl w.heap.size w).alloc (Nat.le_refl _) (.cells #[.slice A2 n2 c2, .int .i64 a] 49)
  have hc_ := Blk.new w 49 #[.slice A2 n2 c2, .int .i64 a]
  have R := hr.mv hB
  have RL := hl.mv hB
  have hnl := hr.len
  have hln := hl.len8
  have h0 : (w.alloc (.cells #[.slice A2 n2 c2, .int .i64 a] 49)).cell? ⟨w.heap.size, 0, none⟩ = some (.slice A2 n2 c2) := (hc_.cell 0).trans rfl
  by_cases hn : n ≤ 210
  rotate_left
  · have d1 : decide ((n : Int) > 210) = true := by rw [decide_eq_true_eq]; omega
    clear hr hl hnl hln
    go_enter Try.func6, Try.ntmps6
    go_wp2_with fail
    go_ret
    exact ⟨rfl, hB⟩
  have d1 : decide ((n : Int) > 210) = false := by rw [decide_eq_false_iff_not]; omega
  by_cases hm : n2 ≤ 500
  rotate_left
  · have d2 : decide ((n2 : Int) > 500) = true := by rw [decide_eq_true_eq]; omega
    clear hr hl hnl hln
    go_enter Try.func6, Try.ntmps6
    go_wp2_with fail
    go_ret
    exact ⟨rfl, hB⟩
  have d2 : decide ((n2 : Int) > 500) = false := by rw [decide_eq_false_iff_not]; omega
  have HFT := Lib.hid (dcL_fit l a k (by omega))
  have HDL := Lib.hid (dcL_len l a k (by omega))
  have hv := hr.2
  clear hr hl hnl hln
  go_enter Try.func6, Try.ntmps6
  go_wp2_with fail
  refine exb_start (w.alloc (.cells #[.slice A2 n2 c2, .int .i64 a] 49)).heap.size (by kernel_rfl) (by repeat (first | exact calm_body | apply calm_then | apply calm_block)) (fun hQ => ?_)
  replace hB := hB.drew
  have hcb := hc_.drew
  replace R : RdU (w.alloc (.cells #[.slice A2 n2 c2, .int .i64 a] 49)).drew A n v := R
  replace RL : Rb (w.alloc (.cells #[.slice A2 n2 c2, .int .i64 a] 49)).drew A2 n2 l := RL
  have hxe : (w.alloc (.cells #[.slice A2 n2 c2, .int .i64 a] 49)).drew.heap.size ≤ (w.alloc (.cells #[.slice A2 n2 c2, .int .i64 a] 49)).heap.size := Nat.le_refl _
  have hx : (w.alloc (.cells #[.slice A2 n2 c2, .int .i64 a] 49)).heap.size ≤ (w.alloc (.cells #[.slice A2 n2 c2, .int .i64 a] 49)).drew.heap.size := Nat.le_refl _
  have hxw : w.heap.size < (w.alloc (.cells #[.slice A2 n2 c2, .int .i64 a] 49)).heap.size := by simp
  clear h0 hc_
  generalize (w.alloc (.cells #[.slice A2 n2 c2, .int .i64 a] 49)).heap.size = B at *
  generalize (w.alloc (.cells #[.slice A2 n2 c2, .int .i64 a] 49)).drew = x at *
  have hBx : x.heap.size ≤ B := hxe
  have X0 : ∀ W, ExB B x W → W.cell? ⟨w.heap.size, 0, none⟩ = some (.slice A2 n2 c2) := fun W h => ((hcb.below h hxw).cell 0).trans rfl
  have X1 : ∀ W, ExB B x W → CvS A2 n2 c2 l W := fun W h => cvS c2 (Reads.below (RdB_of RL hBx) h)
  refine ext_take (i := 1) (oi := ?oia1) (v := ?va1) ?hia1 (by kernel_rfl) (by kernel_rfl) (by kernel_rfl) hQ ?hwa1 ?hya1 ?resta1
  case hia1 => simp only [List.getElem?_toArray, List.getElem?_cons_zero, List.getElem?_cons_succ]; rfl
  case hwa1 => rfl
  case hya1 => intro W hW; go_simp; with_reducible rfl
  simp only [Act.put, List.setIfInBounds_toArray, List.set_cons_zero, List.set_cons_succ]
  refine ext_take (i := 3) (oi := ?oia3) (v := ?va3) ?hia3 (by kernel_rfl) (by kernel_rfl) (by kernel_rfl) hQ ?hwa3 ?hya3 ?resta3
  case hia3 => simp only [List.getElem?_toArray, List.getElem?_cons_zero, List.getElem?_cons_succ]; rfl
  case hwa3 => rfl
  case hya3 => intro W hW; go_simp; with_reducible rfl
  simp only [Act.put, List.setIfInBounds_toArray, List.set_cons_zero, List.set_cons_succ]
  refine ext_take (i := 4) (oi := ?oia4) (v := ?va4) ?hia4 (by kernel_rfl) (by kernel_rfl) (by kernel_rfl) hQ ?hwa4 ?hya4 ?resta4
  case hia4 => simp only [List.getElem?_toArray, List.getElem?_cons_zero, List.getElem?_cons_succ]; rfl
  case hwa4 => rfl
  case hya4 => intro W hW; go_simp; with_reducible rfl
  simp only [Act.put, List.setIfInBounds_toArray, List.set_cons_zero, List.set_cons_succ]
  refine ext_take (i := 5) (oi := ?oia5) (v := ?va5) ?hia5 (by kernel_rfl) (by kernel_rfl) (by kernel_rfl) hQ ?hwa5 ?hya5 ?resta5
  case hia5 => simp only [List.getElem?_toArray, List.getElem?_cons_zero, List.getElem?_cons_succ]; rfl
  case hwa5 => rfl
  case hya5 => intro W hW; go_simp; with_reducible rfl
  simp only [Act.put, List.setIfInBounds_toArray, List.set_cons_zero, List.set_cons_succ]
  refine exb_step (i := 0) (oi := ?oia0) (by kernel_rfl) ?hia0 ?hwa0 (fun K hK => ?_)
  case hia0 => simp only [List.getElem?_toArray, List.getElem?_cons_zero]; rfl
  case hwa0 => rfl
  go_simp
  have b5 : Below x.heap.size x (x.alloc (.cells #[] 31)) := Ext.al x (.cells #[] 31); have o5 := own_empty x (Nat.le_refl _) 31 1; have R5 := R.mv b5; have hx5 := b5.size; refine hK _ _ _ (Nat.le_refl _) (b5.mono hx) ?_
  try simp only [Act.put, List.setIfInBounds_toArray, List.set_cons_zero, List.set_cons_succ]
  refine exb_step (i := 2) (oi := ?oia2) (by kernel_rfl) ?hia2 ?hwa2 (fun K hK => ?_)
  case hia2 => simp only [List.getElem?_toArray, List.getElem?_cons_zero, List.getElem?_cons_succ]; rfl
  case hwa2 => rfl
  (refine wp_app0 (.tmp 28) (.tmp 29) _ (by rfl) slU x.heap.size _ (by rfl) o5 _ A n c (v.map vU) (by rfl) R5.1 vU_one (by omega) hx5 ?_; intro A9 c9 x9 o9 b9 h9; have hx9 := b5.trans b9; refine hK _ _ _ (Nat.le_refl _) (b9.mono hx) ?_)
  try simp only [Act.put, List.setIfInBounds_toArray, List.set_cons_zero, List.set_cons_succ]
  refine ext_take (i := 6) (oi := ?oia6) (v := ?va6) ?hia6 (by kernel_rfl) (by kernel_rfl) (by kernel_rfl) hQ ?hwa6 ?hya6 ?resta6
  case hia6 => simp only [List.getElem?_toArray, List.getElem?_cons_zero, List.getElem?_cons_succ]; rfl
  case hwa6 => rfl
  case hya6 => intro W hW; go_simp; with_reducible rfl
  simp only [Act.put, List.setIfInBounds_toArray, List.set_cons_zero, List.set_cons_succ]
  refine ext_take (i := 7) (oi := ?oia7) (v := ?va7) ?hia7 (by kernel_rfl) (by kernel_rfl) (by kernel_rfl) hQ ?hwa7 ?hya7 ?resta7
  case hia7 => simp only [List.getElem?_toArray, List.getElem?_cons_zero, List.getElem?_cons_succ]; rfl
  case hwa7 => rfl
  case hya7 => intro W hW; go_simp; with_reducible rfl
  simp only [Act.put, List.setIfInBounds_toArray, List.set_cons_zero, List.set_cons_succ]
  refine wpAnyH_done (by kernel_rfl) ?_ _
  clear X0 X1
  have R9 := own_rdU o9 hv
  replace R := R.mv hx9
  replace RL := Reads.mv RL hx9
  replace hcb := hcb.below hx9 hcb.lt
  replace hB := hB.trans (hx9.mono hB.size)
  clear o9 hx9 b5 b9 o5 R5 hx5
  by_cases hE : dcE l a k = 0
  · obtain ⟨z, hz⟩ : ∃ z : Nat, (dcW l a).2.2 = z := ⟨_, rfl⟩
    have HV := Lib.hid (show dcC A2 n2 c2 l a k = cur A2 n2 c2 (z : Int) from by rw [dcC, if_pos hE, hz])
    clear hE hz
    go_wp2_with fail
    refine (make_any A n c v _ R hc).mono ?_
    rintro e w2 ⟨A3, c3, rfl, o3, b⟩
    have N3 := own_rdN o3 (mkL_fit R.2)
    clear o3
    replace R := R.mv b
    replace RL := RL.mv b
    replace R9 := R9.mv b
    replace hcb := hcb.below b hcb.lt
    replace hB := hB.trans (b.mono hB.size)
    clear b
    go_wp2_with fail
    refine (remake_any A n c v _ R hc).mono ?_
    rintro e w3 ⟨A4, c4, rfl, o4, b⟩
    have N4 := own_rdN o4 (mkL_fit R.2)
    clear o4
    replace R := R.mv b
    replace RL := RL.mv b
    replace R9 := R9.mv b
    replace N3 := N3.mv b
    replace hcb := hcb.below b hcb.lt
    replace hB := hB.trans (b.mono hB.size)
    clear b
    have hmk : (mkL v).length ≤ 9223372036854775807 := by have := (N3.len); have h2 := mkL_len v; omega
    generalize mkL v = xm at *
    generalize mkE v = em at *
    have z1 : w3.cell? ⟨w.heap.size, 0, none⟩ = some (.slice A2 n2 c2) := (hcb.cell 0).trans rfl
    have z2 : w3.cell? ⟨w.heap.size, 1, none⟩ = some (.int .i64 a) := (hcb.cell 1).trans rfl
    go_wp2_with fail
    clear z1 z2
    refine (decode8_any A2 n2 c2 l a k _ RL hc2 ha hk).mono ?_
    rintro e w4 hq
    unfold DcP at hq
    obtain ⟨A5, c5, rfl, o5, b⟩ := hq
    rw [HV.out]
    have N5 := own_rdN o5 HFT.out
    clear o5
    replace R := R.mv b
    replace RL := RL.mv b
    replace R9 := R9.mv b
    replace N3 := N3.mv b
    replace N4 := N4.mv b
    replace hcb := hcb.below b hcb.lt
    replace hB := hB.trans (b.mono hB.size)
    clear b
    have b := Ext.al w4 (.cells #[.slice A2 n2 c2, .int .i64 (z : Int)] 49)
    have h13 := Blk.new w4 49 #[.slice A2 n2 c2, .int .i64 (z : Int)]
    have o_hcb_h13 := hcb.lt
    replace R := R.mv b
    replace RL := RL.mv b
    replace R9 := R9.mv b
    replace N3 := N3.mv b
    replace N4 := N4.mv b
    replace N5 := N5.mv b
    replace hcb := hcb.below b hcb.lt
    replace hB := hB.trans (b.mono hB.size)
    clear b
    have z3 : (w4.alloc (.cells #[.slice A2 n2 c2, .int .i64 (z : Int)] 49)).cell? ⟨w.heap.size, 0, none⟩ = some (.slice A2 n2 c2) := (hcb.cell 0).trans rfl
    have z4 : (w4.alloc (.cells #[.slice A2 n2 c2, .int .i64 (z : Int)] 49)).cell? ⟨w.heap.size, 1, none⟩ = some (.int .i64 a) := (hcb.cell 1).trans rfl
    go_wp2_with fail
    clear z3 z4
    generalize w4.alloc (.cells #[.slice A2 n2 c2, .int .i64 (z : Int)] 49) = w5 at *
    generalize w4.heap.size = p13 at *
    refine (redecode8_any A2 n2 c2 l a k _ RL hc2 ha hk).mono ?_
    rintro e w6 hq
    unfold DcP at hq
    obtain ⟨A6, c6, rfl, o5, b⟩ := hq
    rw [HV.out]
    have N6 := own_rdN o5 HFT.out
    clear o5
    replace R := R.mv b
    replace RL := RL.mv b
    replace R9 := R9.mv b
    replace N3 := N3.mv b
    replace N4 := N4.mv b
    replace N5 := N5.mv b
    replace hcb := hcb.below b hcb.lt
    replace h13 := h13.below b h13.lt
    replace hB := hB.trans (b.mono hB.size)
    clear b
    have b := Ext.al w6 (.cells #[.slice A2 n2 c2, .int .i64 (z : Int)] 49)
    have h16 := Blk.new w6 49 #[.slice A2 n2 c2, .int .i64 (z : Int)]
    have o_hcb_h16 := hcb.lt
    have o_h13_h16 := h13.lt
    replace R := R.mv b
    replace RL := RL.mv b
    replace R9 := R9.mv b
    replace N3 := N3.mv b
    replace N4 := N4.mv b
    replace N5 := N5.mv b
    replace N6 := N6.mv b
    replace hcb := hcb.below b hcb.lt
    replace h13 := h13.below b h13.lt
    replace hB := hB.trans (b.mono hB.size)
    clear b
    go_wp2_with fail
    generalize w6.alloc (.cells #[.slice A2 n2 c2, .int .i64 (z : Int)] 49) = w7 at *
    generalize w6.heap.size = p16 at *
    generalize dcL l a k = xd at *
    generalize dcE l a k = ed at *
    refine (same8_any A3 xm.length c3 xm A4 xm.length c4 xm _ N3 N4 hmk).mono ?_
    rintro e w8 ⟨rfl, b⟩
    rw [decide_eq_true (rfl : xm = xm)]
    replace R := R.mv b
    replace RL := RL.mv b
    replace R9 := R9.mv b
    replace N3 := N3.mv b
    replace N4 := N4.mv b
    replace N5 := N5.mv b
    replace N6 := N6.mv b
    replace hcb := hcb.below b hcb.lt
    replace h13 := h13.below b h13.lt
    replace h16 := h16.below b h16.lt
    replace hB := hB.trans (b.mono hB.size)
    clear b
    have z5 : w8.cell? ⟨p13, 0, none⟩ = some (.slice A2 n2 c2) := (h13.cell 0).trans rfl
    have z6 : w8.cell? ⟨p13, 1, none⟩ = some (.int .i64 (z : Int)) := (h13.cell 1).trans rfl
    have z7 : w8.cell? ⟨p16, 0, none⟩ = some (.slice A2 n2 c2) := (h16.cell 0).trans rfl
    have z8 : w8.cell? ⟨p16, 1, none⟩ = some (.int .i64 (z : Int)) := (h16.cell 1).trans rfl
    go_wp2_with fail
    clear z5 z6 z7 z8
    refine (same_any A2 A2 n2 c2 n2 c2 l (z : Int) _ RL RL).mono ?_
    rintro e w9 ⟨rfl, b⟩
    replace R := R.mv b
    replace RL := RL.mv b
    replace R9 := R9.mv b
    replace N3 := N3.mv b
    replace N4 := N4.mv b
    replace N5 := N5.mv b
    replace N6 := N6.mv b
    replace hcb := hcb.below b hcb.lt
    replace h13 := h13.below b h13.lt
    replace h16 := h16.below b h16.lt
    replace hB := hB.trans (b.mono hB.size)
    clear b
    go_wp2_with fail
    refine (same8_any A5 xd.length c5 xd A6 xd.length c6 xd _ N5 N6 (by have := HDL.out; omega)).mono ?_
    rintro e w10 ⟨rfl, b⟩
    rw [decide_eq_true (rfl : xd = xd)]
    replace R := R.mv b
    replace RL := RL.mv b
    replace R9 := R9.mv b
    replace N3 := N3.mv b
    replace N4 := N4.mv b
    replace N5 := N5.mv b
    replace N6 := N6.mv b
    replace hcb := hcb.below b hcb.lt
    replace h13 := h13.below b h13.lt
    replace h16 := h16.below b h16.lt
    replace hB := hB.trans (b.mono hB.size)
    clear b
    go_wp2_with fail
    refine (sameValues_any A n c v A9 n c9 v _ R R9 (by omega)).mono ?_
    rintro e w11 ⟨rfl, b⟩
    rw [decide_eq_true (rfl : v = v)]
    replace R := R.mv b
    replace RL := RL.mv b
    replace R9 := R9.mv b
    replace N3 := N3.mv b
    replace N4 := N4.mv b
    replace N5 := N5.mv b
    replace N6 := N6.mv b
    replace hcb := hcb.below b hcb.lt
    replace h13 := h13.below b h13.lt
    replace h16 := h16.below b h16.lt
    replace hB := hB.trans (b.mono hB.size)
    clear b
    have z9 : w11.cell? ⟨w.heap.size, 0, none⟩ = some (.slice A2 n2 c2) := (hcb.cell 0).trans rfl
    have z10 : w11.cell? ⟨w.heap.size, 1, none⟩ = some (.int .i64 a) := (hcb.cell 1).trans rfl
    have K9 := cvS c2 RL
    go_wp2_with fail
    go_ret
    exact ⟨rfl, hB⟩
  · have HV := Lib.hid (show dcC A2 n2 c2 l a k = cur none 0 0 0 from by rw [dcC, if_neg hE])
    clear hE
    go_wp2_with fail
    refine (make_any A n c v _ R hc).mono ?_
    rintro e w2 ⟨A3, c3, rfl, o3, b⟩
    have N3 := own_rdN o3 (mkL_fit R.2)
    clear o3
    replace R := R.mv b
    replace RL := RL.mv b
    replace R9 := R9.mv b
    replace hcb := hcb.below b hcb.lt
    replace hB := hB.trans (b.mono hB.size)
    clear b
    go_wp2_with fail
    refine (remake_any A n c v _ R hc).mono ?_
    rintro e w3 ⟨A4, c4, rfl, o4, b⟩
    have N4 := own_rdN o4 (mkL_fit R.2)
    clear o4
    replace R := R.mv b
    replace RL := RL.mv b
    replace R9 := R9.mv b
    replace N3 := N3.mv b
    replace hcb := hcb.below b hcb.lt
    replace hB := hB.trans (b.mono hB.size)
    clear b
    have hmk : (mkL v).length ≤ 9223372036854775807 := by have := (N3.len); have h2 := mkL_len v; omega
    generalize mkL v = xm at *
    generalize mkE v = em at *
    have z1 : w3.cell? ⟨w.heap.size, 0, none⟩ = some (.slice A2 n2 c2) := (hcb.cell 0).trans rfl
    have z2 : w3.cell? ⟨w.heap.size, 1, none⟩ = some (.int .i64 a) := (hcb.cell 1).trans rfl
    go_wp2_with fail
    clear z1 z2
    refine (decode8_any A2 n2 c2 l a k _ RL hc2 ha hk).mono ?_
    rintro e w4 hq
    unfold DcP at hq
    obtain ⟨A5, c5, rfl, o5, b⟩ := hq
    rw [HV.out]
    have N5 := own_rdN o5 HFT.out
    clear o5
    replace R := R.mv b
    replace RL := RL.mv b
    replace R9 := R9.mv b
    replace N3 := N3.mv b
    replace N4 := N4.mv b
    replace hcb := hcb.below b hcb.lt
    replace hB := hB.trans (b.mono hB.size)
    clear b
    have b := Ext.al w4 (.cells #[.slice none 0 0, .int .i64 0] 49)
    have h13 := Blk.new w4 49 #[.slice none 0 0, .int .i64 0]
    have o_hcb_h13 := hcb.lt
    replace R := R.mv b
    replace RL := RL.mv b
    replace R9 := R9.mv b
    replace N3 := N3.mv b
    replace N4 := N4.mv b
    replace N5 := N5.mv b
    replace hcb := hcb.below b hcb.lt
    replace hB := hB.trans (b.mono hB.size)
    clear b
    have z3 : (w4.alloc (.cells #[.slice none 0 0, .int .i64 0] 49)).cell? ⟨w.heap.size, 0, none⟩ = some (.slice A2 n2 c2) := (hcb.cell 0).trans rfl
    have z4 : (w4.alloc (.cells #[.slice none 0 0, .int .i64 0] 49)).cell? ⟨w.heap.size, 1, none⟩ = some (.int .i64 a) := (hcb.cell 1).trans rfl
    go_wp2_with fail
    clear z3 z4
    generalize w4.alloc (.cells #[.slice none 0 0, .int .i64 0] 49) = w5 at *
    generalize w4.heap.size = p13 at *
    refine (redecode8_any A2 n2 c2 l a k _ RL hc2 ha hk).mono ?_
    rintro e w6 hq
    unfold DcP at hq
    obtain ⟨A6, c6, rfl, o5, b⟩ := hq
    rw [HV.out]
    have N6 := own_rdN o5 HFT.out
    clear o5
    replace R := R.mv b
    replace RL := RL.mv b
    replace R9 := R9.mv b
    replace N3 := N3.mv b
    replace N4 := N4.mv b
    replace N5 := N5.mv b
    replace hcb := hcb.below b hcb.lt
    replace h13 := h13.below b h13.lt
    replace hB := hB.trans (b.mono hB.size)
    clear b
    have b := Ext.al w6 (.cells #[.slice none 0 0, .int .i64 0] 49)
    have h16 := Blk.new w6 49 #[.slice none 0 0, .int .i64 0]
    have o_hcb_h16 := hcb.lt
    have o_h13_h16 := h13.lt
    replace R := R.mv b
    replace RL := RL.mv b
    replace R9 := R9.mv b
    replace N3 := N3.mv b
    replace N4 := N4.mv b
    replace N5 := N5.mv b
    replace N6 := N6.mv b
    replace hcb := hcb.below b hcb.lt
    replace h13 := h13.below b h13.lt
    replace hB := hB.trans (b.mono hB.size)
    clear b
    go_wp2_with fail
    generalize w6.alloc (.cells #[.slice none 0 0, .int .i64 0] 49) = w7 at *
    generalize w6.heap.size = p16 at *
    generalize dcL l a k = xd at *
    generalize dcE l a k = ed at *
    refine (same8_any A3 xm.length c3 xm A4 xm.length c4 xm _ N3 N4 hmk).mono ?_
    rintro e w8 ⟨rfl, b⟩
    rw [decide_eq_true (rfl : xm = xm)]
    replace R := R.mv b
    replace RL := RL.mv b
    replace R9 := R9.mv b
    replace N3 := N3.mv b
    replace N4 := N4.mv b
    replace N5 := N5.mv b
    replace N6 := N6.mv b
    replace hcb := hcb.below b hcb.lt
    replace h13 := h13.below b h13.lt
    replace h16 := h16.below b h16.lt
    replace hB := hB.trans (b.mono hB.size)
    clear b
    have z5 : w8.cell? ⟨p13, 0, none⟩ = some (.slice none 0 0) := (h13.cell 0).trans rfl
    have z6 : w8.cell? ⟨p13, 1, none⟩ = some (.int .i64 0) := (h13.cell 1).trans rfl
    have z7 : w8.cell? ⟨p16, 0, none⟩ = some (.slice none 0 0) := (h16.cell 0).trans rfl
    have z8 : w8.cell? ⟨p16, 1, none⟩ = some (.int .i64 0) := (h16.cell 1).trans rfl
    go_wp2_with fail
    clear z5 z6 z7 z8
    refine (same_any none none 0 0 0 0 [] 0 _ Reads.none_ Reads.none_).mono ?_
    rintro e w9 ⟨rfl, b⟩
    replace R := R.mv b
    replace RL := RL.mv b
    replace R9 := R9.mv b
    replace N3 := N3.mv b
    replace N4 := N4.mv b
    replace N5 := N5.mv b
    replace N6 := N6.mv b
    replace hcb := hcb.below b hcb.lt
    replace h13 := h13.below b h13.lt
    replace h16 := h16.below b h16.lt
    replace hB := hB.trans (b.mono hB.size)
    clear b
    go_wp2_with fail
    refine (same8_any A5 xd.length c5 xd A6 xd.length c6 xd _ N5 N6 (by have := HDL.out; omega)).mono ?_
    rintro e w10 ⟨rfl, b⟩
    rw [decide_eq_true (rfl : xd = xd)]
    replace R := R.mv b
    replace RL := RL.mv b
    replace R9 := R9.mv b
    replace N3 := N3.mv b
    replace N4 := N4.mv b
    replace N5 := N5.mv b
    replace N6 := N6.mv b
    replace hcb := hcb.below b hcb.lt
    replace h13 := h13.below b h13.lt
    replace h16 := h16.below b h16.lt
    replace hB := hB.trans (b.mono hB.size)
    clear b
    go_wp2_with fail
    refine (sameValues_any A n c v A9 n c9 v _ R R9 (by omega)).mono ?_
    rintro e w11 ⟨rfl, b⟩
    rw [decide_eq_true (rfl : v = v)]
    replace R := R.mv b
    replace RL := RL.mv b
    replace R9 := R9.mv b
    replace N3 := N3.mv b
    replace N4 := N4.mv b
    replace N5 := N5.mv b
    replace N6 := N6.mv b
    replace hcb := hcb.below b hcb.lt
    replace h13 := h13.below b h13.lt
    replace h16 := h16.below b h16.lt
    replace hB := hB.trans (b.mono hB.size)
    clear b
    have z9 : w11.cell? ⟨w.heap.size, 0, none⟩ = some (.slice A2 n2 c2) := (hcb.cell 0).trans rfl
    have z10 : w11.cell? ⟨w.heap.size, 1, none⟩ = some (.int .i64 a) := (hcb.cell 1).trans rfl
    have K9 := cvS c2 RL
    go_wp2_with fail
    go_ret
    exact ⟨rfl, hB⟩

end Go.Proofs.Ytibkimmagiijnaa
