/- Contracts and laws of a chapter that its statement of names leans on. Each states its conditions. -/
import Derived.Test.YtldaijkcmnnjpaaMem5
namespace Go.Proofs.Ytldaijkcmnnjpaa
open Go.RowKit Wire
set_option linter.unusedVariables false
set_option maxRecDepth 100000 in
set_option maxHeartbeats 3200000 in
theorem writeStacks_any (A : Option Addr) (n c : Nat) (L : List (Nat × List UInt8)) (w : World) (hr : RdR w A n L) (hn : n ≤ 1000000) :
    Calls Try.prog 36 #[.slice A n c] w fun e w' => ∃ A' c', e = .returned (.tuple #[.slice A' (whS L).length c', .int .i64 (whSE L)]) ∧ w'.ownsRow w.heap.size 5 1 (.slice A' (whS L).length c') (whS L).length ((whS L).map b8) ∧ Below w.heap.size w w' := by
  have hnl := hr.1
  cases hh : stB L
  · have HV := Lib.hid (show whS L = [] ∧ whSE L = 8 from by constructor <;> simp [whS, whSE, hh])
    have HH := Lib.hid hh
    clear hh
    go_enter Try.func36, Try.ntmps36
    go_wp2_with fail
    refine (areStacks_any A n c L _ hr hn).mono ?_
    rintro e w1 ⟨rfl, b1⟩
    rw [HH.out]
    go_wp2_with fail
    go_ret2
    exact ⟨none, 0, by rw [HV.out.1, HV.out.2]; rfl, by rw [HV.out.1]; exact World.ownsRow_nil _ _ _ _, b1⟩
  have HBD := Lib.hid (stB_bd hh)
  have hn16 : n ≤ 16 := by have := (stB_bd hh).1; omega
  have HV := Lib.hid (show whS L = vry n ++ rgs (L.take n) ∧ whSE L = 0 from by constructor <;> simp [whS, whSE, hh, stL, hnl]; rw [List.take_of_length_le (by omega)])
  have HL := Lib.hid hnl
  have HH := Lib.hid hh
  clear hh hnl
  have hv := (vry_len n).2
  go_enter Try.func36, Try.ntmps36
  go_wp2_with fail
  refine (areStacks_any A n c L _ hr hn).mono ?_
  rintro e w1 ⟨rfl, b1⟩
  rw [HH.out]
  go_wp2_with fail
  refine (vary_any n (by omega) _).mono ?_
  rintro e w2 ⟨A2, c2, rfl, o2, b2⟩
  have hB2 := b1.trans (b2.mono b1.size)
  have b3 := Ext.al w2 (.cells #[.slice A2 (vry n).length c2] 25)
  have hg := Blk.new w2 25 #[.slice A2 (vry n).length c2]
  have o3 := own_low (own_call o2 b3) b1.size
  have hB3 := hB2.trans (Below.mono b3 hB2.size)
  go_wp2_with fail
  generalize w2.alloc (.cells #[.slice A2 (vry n).length c2] 25) = w3 at *
  have hgB : w.heap.size ≤ w2.heap.size := hB2.size
  generalize w2.heap.size = g at *
  clear o2 b3 b2 b1 hB2
  go_loopw [18] (fun i wr => ∃ (j m : Nat) (A1 : Option Addr) (c1 : Nat), j ≤ n ∧ i = .int .i64 (j : Int) ∧ (vry n ++ rgs (L.take j)).length = m ∧ m ≤ 10 + 4106 * j ∧ Blk wr g 25 #[.slice A1 m c1] ∧ wr.ownsRow w.heap.size 5 1 (.slice A1 m c1) m ((vry n ++ rgs (L.take j)).map b8) ∧ Below w.heap.size w wr) (fun i _ => n - (intOf i).toNat)
  case atStart => exact ⟨0, (vry n).length, A2, c2, by omega, rfl, by simp [rgs], by omega, hg, by simpa [rgs] using o3, hB3⟩
  case round =>
    obtain ⟨j, m, A1, cc, hj, rfl, hm, hm2, hk, hown, hB⟩ := hrel
    have HM := Lib.hid hm
    clear hm
    by_cases hlt : j < n
    · obtain ⟨ad, b, l, Ai, ci, hA, hab, hz, c0, c1, _, rl, hb⟩ := hr.at_ hlt
      have hl4 : l.length ≤ 4096 := HBD.out.2 (b, l) (List.mem_of_getElem? hz)
      have HT := Lib.hid (rgs_take hz)
      have HA := Lib.hid hA
      clear hz
      subst hA
      replace c0 := (hB.cell (by rw [block_of_add]; exact hab)).trans c0
      replace c1 := (hB.cell (by rw [block_of_add]; exact hab)).trans c1
      have c2 : wr.cell? { block := (ad.add (j * 2)).block, off := (ad.add (j * 2)).off + 1 } = some (.slice Ai l.length ci) := by
        have e : ({ block := (ad.add (j * 2)).block, off := (ad.add (j * 2)).off + 1 } : Addr) = ad.add (j * 2 + 1) := by simp [Addr.add]; split <;> simp <;> omega
        rw [e]; exact c1

      have b1 := Ext.al wr (.cells #[.int .u64 (b : Int), .slice Ai l.length ci] 75)
      have hk1 := hk.below b1 hk.lt
      have own1 := own_call hown b1
      have hB1 := hB.trans (Below.mono b1 hB.size)
      go_wp2_with fail
      refine (putr_any w.heap.size g b A1 m cc (vry n ++ rgs (L.take j)) Ai l.length ci l _ (fun W hX => Reads.mv rl (hB1.trans (hX.below (Nat.le_refl _) hgB))) rfl (by omega) (by omega) HM.out hB1.size hk1 own1).mono ?_
      rintro e w6 ⟨rfl, A6, c6, m6, hm6, hk6, o6, hX6⟩
      have hB6 := hB1.trans (hX6.below (Nat.le_refl _) hgB)
      rw [List.append_assoc, ← HT.out] at hm6 o6
      have h6 : m6 ≤ 10 + 4106 * (j + 1) := by
        have := (vry_len l.length).2
        have hM := HM.out
        rw [← hm6, HT.out]
        simp only [List.length_append] at hM ⊢
        omega
      have HM6 := Lib.hid hm6
      clear hm6 hm2
      go_wp2_with fail
      go_roundw
      case rel => exact ⟨j + 1, m6, A6, c6, by omega, by go_num, HM6.out, h6, hk6, o6, hB6⟩
      case measure => simp [intOf]; omega
    · have hjn : j = n := by omega
      subst hjn
      rw [← HV.out.1] at hown HM
      have cg : wr.cell? ⟨g, 0, none⟩ = some (.slice A1 m cc) := (hk.cell 0).trans rfl
      go_wp2_with fail
      go_ret2
      rw [HM.out, HV.out.2]
      exact ⟨A1, cc, rfl, hown, hB⟩

end Go.Proofs.Ytldaijkcmnnjpaa
