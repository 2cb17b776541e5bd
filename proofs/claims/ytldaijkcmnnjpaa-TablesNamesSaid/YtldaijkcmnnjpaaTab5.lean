/- Contracts and laws of a chapter that its statement of names leans on. Each states its conditions. -/
import Derived.Test.YtldaijkcmnnjpaaTabP
namespace Go.Proofs.Ytldaijkcmnnjpaa
open Go.RowKit Wire
set_option linter.unusedVariables false
set_option maxRecDepth 100000 in
set_option maxHeartbeats 3200000 in
theorem list_any (A : Option Addr) (n c : Nat) (L : List (Int × Nat)) (k : Int) (w : World) (hr : RdN w A n L) (hc : n ≤ c ∧ c ≤ 9223372036854775807) :
    Calls Try.prog 25 #[.slice A n c, .int .i64 k] w fun e w' => ∃ A' c', e = .returned (.tuple #[.slice A' (lsL L k).length c', .int .i64 (ckT L k)]) ∧ w'.ownsRow w.heap.size 55 1 (.slice A' (lsL L k).length c') (lsL L k).length ((lsL L k).map vU) ∧ Below w.heap.size w w' := by
  have HK := Lib.hid (fun W (h : RdN W A n L) => check8_any A n c L k W h hc)
  by_cases h : ckT L k = 0
  rotate_left
  · have HV := Lib.hid (show lsL L k = [] from by rw [lsL, if_neg h])
    have d1 : (ckT L k != 0) = true := by rw [bne_iff_ne]; exact h
    generalize ckT L k = x at *
    clear h
    go_enter Try.func25, Try.ntmps25
    go_wp2_with fail
    refine (HK.out _ hr).mono ?_
    rintro e w1 ⟨rfl, hb⟩
    go_wp2_with fail
    go_ret2
    exact ⟨none, 0, by rw [HV.out]; rfl, by rw [HV.out]; exact World.ownsRow_nil _ _ _ _, hb⟩
  obtain ⟨⟨h1, h2⟩, hfn⟩ := ck_zero8 h
  obtain ⟨m, rfl⟩ : ∃ m : Nat, k = (m : Int) := ⟨k.toNat, by omega⟩
  have HV := Lib.hid (show lsL L (m : Int) = lstF L m from by rw [lsL, if_pos h]; rfl)
  have HF := Lib.hid hfn
  have HL := Lib.hid hr.len
  clear hfn
  rw [HV.out, lstF_len]
  rw [h] at HK ⊢
  clear h
  go_enter Try.func25, Try.ntmps25
  go_wp2_with fail
  refine (HK.out _ hr).mono ?_
  rintro e w1 ⟨rfl, hb⟩
  have RR := hr.mv hb
  obtain ⟨i0, hi0, hz0, hs0, hby0⟩ := info_parts slU.hi
  go_wp2_with (refine wpList_make_full _ rfl (.tmp 19) (.tmp 19) 62 rfl w.heap.size 55 i0 (.int .u64 0) 1 slU.ht hi0 hz0 hs0 .i64 .i64 _ _ m (by rfl) (by rfl) rfl rfl (by rw [hby0]; omega) (by unfold maxLen; omega) hb.size ?_; intro w2 o2 g2)
  obtain ⟨hkg, hbg, hml, _⟩ := own_blk o2
  rw [arr_made] at hkg
  have hB2 := hb.grown g2 hb.size (fun k h => by cases h)
  generalize w1.heap.size = g at *
  clear o2 g2 hb RR
  go_loopw [23] (fun i wr => ∃ (j : Nat) (F : Nat → Nat) (b : Nat), j ≤ n ∧ i = .int .i64 (j : Int) ∧ (j < n → ∃ z, L[j]? = some ((b : Int), z)) ∧ (j = n → b = m) ∧ Blk wr g 55 (arr .u64 m F) ∧ (∀ i, i < b → F i = valA L (i : Int)) ∧ Below w.heap.size w wr) (fun i _ => n - (intOf i).toNat)
  case atStart =>
    obtain ⟨v, r, hv⟩ := fn_first HF.out
    exact ⟨0, _, 0, by omega, rfl, fun _ => ⟨v, by rw [hv]; rfl⟩, fun h => by have := HL.out; rw [hv, ← h] at this; simp at this, hkg, fun i h => absurd h (by omega), hB2⟩
  case round =>
    obtain ⟨j, F, b, hj, rfl, hlo, hend, hkg, hFv, hB⟩ := hrel
    have HFV := Lib.hid hFv
    have HEND := Lib.hid hend
    clear hFv hend
    by_cases hlt : j < n
    rotate_left
    · obtain rfl := HEND.out (by omega)
      have hE := arrU_list b F
      have o3 := blk_own hkg (arr_size _ _ _) hbg hml
      rw [hE, show (List.range b).map F = lstF L b from List.map_congr_left fun i hi => HFV.out i (List.mem_range.1 hi)] at o3
      go_wp2_with fail
      go_ret2
      exact ⟨_, _, rfl, o3, hB⟩
    obtain ⟨z, hz⟩ := hlo hlt
    have HZ := Lib.hid hz
    obtain ⟨ad, f2, z2, hA, hab, hz2, c0, c1, _, hzb⟩ := hr.at_ hlt
    rw [hz] at hz2
    injection hz2 with hz2
    injection hz2 with q1 q2
    subst q1 q2 hA
    have hbm : (b : Int) < (m : Int) := (fn_at HF.out hz).1.2
    clear hz hlo
    have b1 := Ext.al wr (.cells #[.int .i64 (b : Int), .int .u64 (z : Int)] 57)
    have hkx := Blk.new wr 57 #[.int .i64 (b : Int), .int .u64 (z : Int)]
    have hkg1 := hkg.below b1 hkg.lt
    have hB1 := hB.trans (Below.mono b1 hB.size)
    have hgx := Blk.ne_ hkg1 hkx (by decide)
    have d0 := cl0 hB hab c0
    have d1 := cl1 hB hab c1
    have x1 : (wr.alloc (.cells #[.int .i64 (b : Int), .int .u64 (z : Int)] 57)).cell? ⟨wr.heap.size, 0, none⟩ = some (.int .i64 (b : Int)) := (hkx.cell 0).trans rfl
    by_cases hlast : j + 1 < n
    · obtain ⟨ad3, f3, z3, hA3, _, hz3, e0, _, _, _⟩ := hr.at_ hlast
      injection hA3 with hA3
      subst hA3
      obtain ⟨⟨h30, h3m⟩, _⟩ := fn_at HF.out hz3
      obtain ⟨e, rfl⟩ : ∃ e : Nat, f3 = (e : Int) := ⟨f3.toNat, by omega⟩
      have hbe : (b : Int) < (e : Int) := (fn_next HF.out HZ.out hz3).1
      have hem : (e : Int) ≤ (m : Int) := by simp at h3m; omega
      have HV2 := Lib.hid (fun (i : Nat) (h1 : b ≤ i) (h2 : i < e) => val_at (i := (i : Int)) HF.out HZ.out (by omega) (fun q hq => by rw [hz3] at hq; injection hq with hq; subst hq; simp; omega))
      have HNX := Lib.hid (show (j + 1 < n → ∃ z, L[j + 1]? = some ((e : Int), z)) ∧ (j + 1 = n → e = m) from ⟨fun _ => ⟨_, hz3⟩, fun h => absurd h (by omega)⟩)
      have dl : decide ((j : Int) + 1 < (n : Int)) = true := by rw [decide_eq_true_eq]; omega
      have e0' := cl0 hB1 hab e0
      have l0 : (0 : Int) ≤ (j : Int) + 1 := by omega
      have l1 : (j : Int) + 1 < (n : Int) := by omega
      clear hz3 h30 h3m e0
      have s0 : (0 : Int) ≤ (b : Int) := by omega
      have s1 : (b : Int) ≤ (e : Int) := by omega
      have s2 : ¬ e = b := by omega
      go_wp2_with fail
      generalize wr.alloc (.cells #[.int .i64 (b : Int), .int .u64 (z : Int)] 57) = x0 at *
      generalize wr.heap.size = px at *
      clear x1
      go_loopw [48] (fun i wx => ∃ (q : Nat) (F : Nat → Nat), q ≤ e - b ∧ i = .int .i64 (q : Int) ∧ Blk wx g 55 (arr .u64 m F) ∧ Blk wx px 57 #[.int .i64 (b : Int), .int .u64 (z : Int)] ∧ (∀ i, i < b + q → F i = valA L (i : Int)) ∧ Below w.heap.size w wx) (fun i _ => (e - b) - (intOf i).toNat)
      case atStart => exact ⟨0, F, by omega, rfl, hkg1, hkx, fun i hi => HFV.out i (by omega), hB1⟩
      case round =>
        obtain ⟨q, F2, hq, rfl, hg2, hx2, hF2, hB2⟩ := hrel
        have HF2 := Lib.hid hF2
        clear hF2
        by_cases hlt2 : q < e - b
        · have y1 : wr.cell? ⟨px, 1, none⟩ = some (.int .u64 (z : Int)) := (hx2.cell 1).trans rfl
          have y2 : wr.cell? ⟨g, b + q, none⟩ = some (.int .u64 (F2 (b + q) : Int)) := hg2.arr_cell (by omega)
          have y3 := hg2.frozen (b + q)
          have t0 : (0 : Int) ≤ (q : Int) := by omega
          have t1 : (q : Int) < ((e - b : Nat) : Int) := by omega
          have HZV := Lib.hid (HV2.out (b + q) (by omega) (by omega))
          go_wp2_with fail
          go_roundw
          case rel => exact ⟨q + 1, fun i => if i = b + q then z else F2 i, by omega, by go_num, by rw [← arr_set]; exact hg2.set_ (b + q) _, hx2.far (p := ⟨g, b + q, none⟩) (fun h => hgx h.symm) _, fun i hi => by
            by_cases hib : i = b + q
            · subst hib; simpa using HZV.out.symm
            · simp only [if_neg hib]; exact HF2.out i (by omega), hB2.setCell (p := ⟨g, b + q, none⟩) hbg _⟩
          case measure => simp [intOf]; omega
        · obtain rfl : q = e - b := by omega
          go_wp2_with fail
          go_roundw
          case rel => exact ⟨j + 1, F2, e, by omega, by go_num, HNX.out.1, (by first | exact HNX.out.2 | exact fun _ => rfl), hg2, fun i hi => HF2.out i (by omega), hB2⟩
          case measure => simp [intOf]; omega
    · have hbe : (b : Int) < (m : Int) := hbm
      have hem : (m : Int) ≤ (m : Int) := Int.le_refl _
      have HV2 := Lib.hid (fun (i : Nat) (h1 : b ≤ i) (h2 : i < m) => val_at (i := (i : Int)) HF.out HZ.out (by omega) (fun q hq => absurd (List.getElem?_eq_some_iff.1 hq).1 (by rw [HL.out]; omega)))
      have HNX := Lib.hid (show (j + 1 < n → ∃ z, L[j + 1]? = some ((m : Int), z)) ∧ (j + 1 = n → m = m) from ⟨fun h => absurd h hlast, fun _ => rfl⟩)
      have dl : decide ((j : Int) + 1 < (n : Int)) = false := by rw [decide_eq_false_iff_not]; omega
      have s0 : (0 : Int) ≤ (b : Int) := by omega
      have s1 : (b : Int) ≤ (m : Int) := by omega
      have s2 : ¬ m = b := by omega
      go_wp2_with fail
      generalize wr.alloc (.cells #[.int .i64 (b : Int), .int .u64 (z : Int)] 57) = x0 at *
      generalize wr.heap.size = px at *
      clear x1
      go_loopw [48] (fun i wx => ∃ (q : Nat) (F : Nat → Nat), q ≤ m - b ∧ i = .int .i64 (q : Int) ∧ Blk wx g 55 (arr .u64 m F) ∧ Blk wx px 57 #[.int .i64 (b : Int), .int .u64 (z : Int)] ∧ (∀ i, i < b + q → F i = valA L (i : Int)) ∧ Below w.heap.size w wx) (fun i _ => (m - b) - (intOf i).toNat)
      case atStart => exact ⟨0, F, by omega, rfl, hkg1, hkx, fun i hi => HFV.out i (by omega), hB1⟩
      case round =>
        obtain ⟨q, F2, hq, rfl, hg2, hx2, hF2, hB2⟩ := hrel
        have HF2 := Lib.hid hF2
        clear hF2
        by_cases hlt2 : q < m - b
        · have y1 : wr.cell? ⟨px, 1, none⟩ = some (.int .u64 (z : Int)) := (hx2.cell 1).trans rfl
          have y2 : wr.cell? ⟨g, b + q, none⟩ = some (.int .u64 (F2 (b + q) : Int)) := hg2.arr_cell (by omega)
          have y3 := hg2.frozen (b + q)
          have t0 : (0 : Int) ≤ (q : Int) := by omega
          have t1 : (q : Int) < ((m - b : Nat) : Int) := by omega
          have HZV := Lib.hid (HV2.out (b + q) (by omega) (by omega))
          go_wp2_with fail
          go_roundw
          case rel => exact ⟨q + 1, fun i => if i = b + q then z else F2 i, by omega, by go_num, by rw [← arr_set]; exact hg2.set_ (b + q) _, hx2.far (p := ⟨g, b + q, none⟩) (fun h => hgx h.symm) _, fun i hi => by
            by_cases hib : i = b + q
            · subst hib; simpa using HZV.out.symm
            · simp only [if_neg hib]; exact HF2.out i (by omega), hB2.setCell (p := ⟨g, b + q, none⟩) hbg _⟩
          case measure => simp [intOf]; omega
        · obtain rfl : q = m - b := by omega
          go_wp2_with fail
          go_roundw
          case rel => exact ⟨j + 1, F2, m, by omega, by go_num, HNX.out.1, (by first | exact HNX.out.2 | exact fun _ => rfl), hg2, fun i hi => HF2.out i (by omega), hB2⟩
          case measure => simp [intOf]; omega

end Go.Proofs.Ytldaijkcmnnjpaa
