/- The contracts of the reference's Bytes, Write, Find. Each states its conditions. -/
import Derived.Test.YteaaiacgebikpaaSec4
namespace Go.Proofs.Yteaaiacgebikpaa
open Go.RowKit Wire Crc
set_option linter.unusedVariables false

set_option maxRecDepth 100000 in
set_option maxHeartbeats 1600000 in
theorem four25_any (x : Nat) (hx : x < 4294967296) (w : World) :
    Calls Try.prog 47 #[.int .u32 (x : Int)] w fun e w' => ∃ A c, e = .returned (.slice A 4 c) ∧ w'.ownsRow w.heap.size 5 1 (.slice A 4 c) 4 ((ltl 4 x).map b8) ∧ Below w.heap.size w w' := by
  have hB := little_any x 4 (by omega) (by omega) w
  have hw : IntKind.u64.wrap (x : Int) = (x : Int) := by rw [IntKind.wrap_u64]; omega
  have HB := Lib.hid hB
  clear hB
  go_enter Try.func47, Try.ntmps47
  go_wp2_with fail
  refine HB.out.mono ?_
  rintro e w1 ⟨A1, c1, rfl, o1, b⟩
  go_wp2_with fail
  go_ret
  exact ⟨A1, c1, rfl, o1, b⟩

set_option maxRecDepth 100000 in
set_option maxHeartbeats 6400000 in
theorem rbytes25_any (A : Option Addr) (n c : Nat) (L : List (Nat × List UInt8)) (w : World) (hr : RdS w A n L) (hck : ckS L = 0) :
    Calls Try.prog 39 #[.slice A n c] w fun e w' => ∃ A' c', e = .returned (.slice A' (secL L).length c') ∧ w'.ownsRow w.heap.size 5 1 (.slice A' (secL L).length c') (secL L).length ((secL L).map b8) ∧ Below w.heap.size w w' := by
  have HN := Lib.hid hr.1
  have HR := Lib.hid hr
  clear hr
  obtain ⟨k1, k2, k3⟩ := ckS_ok hck
  rw [HN.out] at k1 k3
  obtain ⟨SM, hSM⟩ : ∃ SM, sumL L = SM := ⟨_, rfl⟩
  rw [hSM] at k3
  have HST := Lib.hid (fun j => (hSM ▸ sum_take L j : sumL (L.take j) ≤ SM))
  have HLB := Lib.hid (show ∀ p ∈ L, p.2.length ≤ SM from fun p hp => by
    rw [← hSM]
    obtain ⟨k, hk, hkp⟩ := List.mem_iff_getElem.1 hp
    have h1 := (dirL_take 0 (show L[k]? = some p from by rw [List.getElem?_eq_getElem hk, hkp])).2.1
    have h2 := sum_take L (k + 1)
    omega)
  have HSM := Lib.hid (show 10 + 13 * n + sumL L ≤ 200000 from by rw [hSM]; exact k3)
  clear hck k2 hSM
  have hwn : IntKind.u8.wrap (n : Int) = (n : Int) := by rw [IntKind.wrap_u8]; omega
  have vn : (UInt8.ofNat n).toNat = n := by rw [UInt8.toNat_ofNat']; omega
  have o7 : (w.alloc (.cells #[.int .u8 87, .int .u8 82, .int .u8 67, .int .u8 75, .int .u8 1, .int .u8 (n : Int)] 5)).ownsRow w.heap.size 5 1 (.slice (some ⟨w.heap.size, 0, none⟩) 6 6) 6 (([87, 82, 67, 75, 1, UInt8.ofNat n] : List UInt8).map b8) := by
    have h := own_lit (base := w.heap.size) (w := w) (Nat.le_refl _) [87, 82, 67, 75, 1, UInt8.ofNat n] (by simp)
    rw [show ([87, 82, 67, 75, 1, UInt8.ofNat n].map b8).toArray = #[.int .u8 87, .int .u8 82, .int .u8 67, .int .u8 75, .int .u8 1, .int .u8 (n : Int)] from by simp [b8, vn]] at h
    exact h
  have hB6 := (Below.refl w.heap.size w).alloc (Nat.le_refl _) (.cells #[.int .u8 87, .int .u8 82, .int .u8 67, .int .u8 75, .int .u8 1, .int .u8 (n : Int)] 5)
  go_enter Try.func39, Try.ntmps39
  go_wp2_with fail
  obtain ⟨a0, ha0⟩ : ∃ a0, 10 + 13 * n = a0 := ⟨_, rfl⟩
  go_loopw [3, 4, 5] (fun v a i wr => ∃ (j at_ : Nat) (lb : List UInt8) (A1 : Option Addr) (c1 : Nat), j ≤ n ∧ i = .int .i64 (j : Int) ∧ a = .int .i64 (at_ : Int) ∧ at_ = a0 + sumL (L.take j) ∧ lb = [87, 82, 67, 75, 1, UInt8.ofNat n] ++ dirL a0 (L.take j) ∧ v = .slice A1 lb.length c1 ∧ wr.ownsRow w.heap.size 5 1 (.slice A1 lb.length c1) lb.length (lb.map b8) ∧ Below w.heap.size w wr) (fun _ _ i _ => n - (intOf i).toNat)
  case atStart => exact ⟨0, a0, [87, 82, 67, 75, 1, UInt8.ofNat n], _, 6, by omega, rfl, by go_num, by simp [sumL, lens], by simp [dirL], rfl, o7, hB6⟩
  case round =>
    clear o7 hB6
    obtain ⟨j, at_, lb, A1, c1, hj, rfl, rfl, hat, hlb, rfl, o1, hB⟩ := hrel
    have hst := HST.out j
    have hlbl : lb.length ≤ 200 := by
      rw [hlb, List.length_append, dirL_len]
      have : (L.take j).length ≤ 7 := by rw [List.length_take]; have := HN.out; omega
      simp; omega
    have HAT := Lib.hid hat
    have HLB2 := Lib.hid hlb
    have hatb : at_ ≤ 200000 := by omega
    clear hat hlb
    by_cases hlt : j < n
    · obtain ⟨ad, b, l, Ai, ci, hA, hab, hz_, c0, c1_, hci, hrl, hb256⟩ := HR.out.at_ hlt
      have HA := Lib.hid hA
      subst hA
      have hlSM := HLB.out _ (List.mem_of_getElem? hz_)
      have HZ := Lib.hid (dirL_take a0 hz_)
      have HRL := Lib.hid hrl
      simp only at hlSM
      have hll : l.length ≤ 200000 := by omega
      clear hz_ hrl
      have wat : IntKind.u32.wrap (at_ : Int) = (at_ : Int) := by rw [IntKind.wrap_u32]; omega
      have wll : IntKind.u32.wrap (l.length : Int) = (l.length : Int) := by rw [IntKind.wrap_u32]; omega
      have vb : (UInt8.ofNat b).toNat = b := by rw [UInt8.toNat_ofNat']; omega
      have RB : Rb (wr.alloc (.cells #[.int .u8 (b : Int)] 5)) (some ⟨wr.heap.size, 0, none⟩) 1 [UInt8.ofNat b] := by
        have h := reads_bytes wr [UInt8.ofNat b] 5
        rw [show ([UInt8.ofNat b].map b8).toArray = #[.int .u8 (b : Int)] from by simp [b8, vb]] at h
        exact h
      have o3 := own_alloc_ o1 (.cells #[.int .u8 (b : Int)] 5)
      have hB3 := hB.alloc hB.size (.cells #[.int .u8 (b : Int)] 5)
      obtain ⟨N1, hN1⟩ : ∃ N1, lb.length + 1 = N1 := ⟨_, rfl⟩
      have z0 : wr.cell? (ad.add (j * 2)) = some (.int .u8 (b : Int)) := (Below.cell hB (by rw [block_of_add]; exact hab)).trans c0; have z1 : wr.cell? { block := (ad.add (j * 2)).block, off := (ad.add (j * 2)).off + 1 } = some (.slice Ai l.length ci) := (Below.cell hB (by show (ad.add (j * 2)).block < _; rw [block_of_add]; exact hab)).trans c1_
      go_wp2_with (at_builtin; refine wpList_app8g (l := lb) rfl (.tmp 21) (.tmp 27) _ (by rfl) sl8 w.heap.size (by rfl) o3 (by rfl) RB N1 (by omega) (by omega) hB3.size ?_; intro A4 c4 w4 o4 hg_ b4)
      have hB4 := hB3.trans b4
      obtain ⟨l1, hl1⟩ : ∃ l1, lb ++ [UInt8.ofNat b] = l1 := ⟨_, rfl⟩
      have hl1l : l1.length = N1 := by rw [← hl1, List.length_append]; exact hN1
      rw [hl1] at o4
      have HL1 := Lib.hid hl1
      have hN1b : N1 ≤ 201 := by omega
      clear o3 hB3 RB hg_ b4 hl1 z0 z1 o1 hN1
      subst hl1l
      refine (four25_any at_ (by omega) _).mono ?_
      rintro e w5 ⟨A_w5, c_w5, rfl, o5, b_w5⟩
      have o4b := own_call o4 b_w5
      have hB5 := hB4.trans (b_w5.mono hB4.size)
      obtain ⟨N2, hN2⟩ : ∃ N2, l1.length + 4 = N2 := ⟨_, rfl⟩
      go_wp2_with (at_builtin; refine wpList_app8g (l := l1) rfl (.tmp 29) (.tmp 32) _ (by rfl) sl8 w.heap.size (by rfl) o4b (by rfl) (own_rd o5) N2 (by omega) (by omega) hB5.size ?_; intro A6 c6 w6 o6 hg_ b6; have hB6 := hB5.trans b6; have z1 : w6.cell? { block := (ad.add (j * 2)).block, off := (ad.add (j * 2)).off + 1 } = some (.slice Ai l.length ci) := (Below.cell hB6 (by show (ad.add (j * 2)).block < _; rw [block_of_add]; exact hab)).trans c1_)
      obtain ⟨l2, hl2⟩ : ∃ l2, l1 ++ ltl 4 at_ = l2 := ⟨_, rfl⟩
      have hl2l : l2.length = N2 := by rw [← hl2, List.length_append, ltl_len]; exact hN2
      rw [hl2] at o6
      have HL2 := Lib.hid hl2
      have hN2b : N2 ≤ 205 := by omega
      clear o4 o4b o5 b_w5 b6 hg_ hl2 z1 hN2 hB4 hB5
      subst hl2l
      refine (four25_any l.length (by omega) _).mono ?_
      rintro e w7 ⟨A_w7, c_w7, rfl, o7, b_w7⟩
      have o6b := own_call o6 b_w7
      have hB7 := hB6.trans (b_w7.mono hB6.size)
      obtain ⟨N3, hN3⟩ : ∃ N3, l2.length + 4 = N3 := ⟨_, rfl⟩
      go_wp2_with (at_builtin; refine wpList_app8g (l := l2) rfl (.tmp 34) (.tmp 42) _ (by rfl) sl8 w.heap.size (by rfl) o6b (by rfl) (own_rd o7) N3 (by omega) (by omega) hB7.size ?_; intro A8 c8 w8 o8 hg_ b8_; have hB8 := hB7.trans b8_; have z1 : w8.cell? { block := (ad.add (j * 2)).block, off := (ad.add (j * 2)).off + 1 } = some (.slice Ai l.length ci) := (Below.cell hB8 (by show (ad.add (j * 2)).block < _; rw [block_of_add]; exact hab)).trans c1_)
      obtain ⟨l3, hl3⟩ : ∃ l3, l2 ++ ltl 4 l.length = l3 := ⟨_, rfl⟩
      have hl3l : l3.length = N3 := by rw [← hl3, List.length_append, ltl_len]; exact hN3
      rw [hl3] at o8
      have HL3 := Lib.hid hl3
      have hN3b : N3 ≤ 209 := by omega
      clear o6 o6b o7 b_w7 b8_ hg_ hl3 z1 hN3 hB6 hB7
      subst hl3l
      refine (on_any 0 (by omega) Ai l.length ci l _ (HRL.out.mv hB8) (by omega)).mono ?_
      rintro e w9 ⟨rfl, b9⟩
      have hcs := nxt_lt l
      obtain ⟨cs, hcse⟩ : ∃ cs, nxt 0 l = cs := ⟨_, rfl⟩
      rw [hcse] at hcs ⊢
      have HCS := Lib.hid hcse
      have o9 := own_call o8 b9
      have hB9 := hB8.trans (b9.mono hB8.size)
      clear hcse o8 b9 hB8
      go_wp2_with fail
      refine (four25_any cs (by omega) _).mono ?_
      rintro e wa ⟨A_wa, c_wa, rfl, oa, b_wa⟩
      have o9b := own_call o9 b_wa
      have hBa := hB9.trans (b_wa.mono hB9.size)
      obtain ⟨N4, hN4⟩ : ∃ N4, l3.length + 4 = N4 := ⟨_, rfl⟩
      go_wp2_with (at_builtin; refine wpList_app8g (l := l3) rfl (.tmp 44) (.tmp 51) _ (by rfl) sl8 w.heap.size (by rfl) o9b (by rfl) (own_rd oa) N4 (by omega) (by omega) hBa.size ?_; intro Ab cb wb ob_ hg_ bb; have hBb := hBa.trans bb; have z1 : wb.cell? { block := (ad.add (j * 2)).block, off := (ad.add (j * 2)).off + 1 } = some (.slice Ai l.length ci) := (Below.cell hBb (by show (ad.add (j * 2)).block < _; rw [block_of_add]; exact hab)).trans c1_)
      go_roundw
      case rel => exact ⟨j + 1, at_ + l.length, l3 ++ ltl 4 cs, Ab, cb, by omega, by go_num, by go_num, by rw [HZ.out.2.1, HAT.out]; omega, by rw [← HL3.out, ← HL2.out, ← HL1.out, HZ.out.1, HLB2.out, HAT.out, ← HCS.out]; simp [entL, List.append_assoc], by rw [List.length_append, ltl_len, hN4], by rw [List.length_append, ltl_len, hN4]; exact ob_, hBb⟩
      case measure => simp [intOf]; omega
    · obtain rfl : n = j := by omega
      have hlh : lb = hedL L := by rw [HLB2.out, List.take_of_length_le (by rw [HN.out]; omega), hedL, HN.out, ha0]
      have HLH := Lib.hid hlh
      clear hlh HST
      go_wp2_with fail
      refine (on_any 0 (by omega) A1 lb.length c1 lb _ (own_rd o1) (by omega)).mono ?_
      rintro e w3 ⟨rfl, b3⟩
      have hcs := nxt_lt lb
      obtain ⟨cs, hcse⟩ : ∃ cs, nxt 0 lb = cs := ⟨_, rfl⟩
      rw [hcse] at hcs ⊢
      have HCS := Lib.hid hcse
      clear hcse
      have o3 := own_call o1 b3
      have hB3 := hB.trans (b3.mono hB.size)
      clear o1
      go_wp2_with fail
      refine (four25_any cs (by omega) _).mono ?_
      rintro e w5 ⟨A_w5, c_w5, rfl, o5, b_w5⟩
      have o3b := own_call o3 b_w5
      have hB5 := hB3.trans (b_w5.mono hB3.size)
      obtain ⟨NN, hNN⟩ : ∃ NN, lb.length + 4 = NN := ⟨_, rfl⟩
      go_wp2_with (at_builtin; refine wpList_app8g (l := lb) rfl (.tmp 61) (.tmp 64) _ (by rfl) sl8 w.heap.size (by rfl) o3b (by rfl) (own_rd o5) NN (by omega) (by omega) hB5.size ?_; intro A6 c6 w6 o6 hg_ b6)
      have hB6 := hB5.trans b6
      obtain ⟨lh, hlh⟩ : ∃ lh, lb ++ ltl 4 cs = lh := ⟨_, rfl⟩
      have hlhl : lh.length = NN := by rw [← hlh, List.length_append, ltl_len]; exact hNN
      rw [hlh] at o6
      have HLX := Lib.hid hlh
      have hNNb : NN ≤ 210 := by omega
      clear o3 o3b o5 b_w5 b6 hg_ hlh hNN hB3 hB
      subst hlhl
      go_loopw [3, 6] (fun v i wr => ∃ (j : Nat) (lb : List UInt8) (A1 : Option Addr) (c1 : Nat), j ≤ n ∧ i = .int .i64 (j : Int) ∧ lb = lh ++ datL (L.take j) ∧ v = .slice A1 lb.length c1 ∧ wr.ownsRow w.heap.size 5 1 (.slice A1 lb.length c1) lb.length (lb.map b8) ∧ Below w.heap.size w wr) (fun _ i _ => n - (intOf i).toNat)
      case atStart => exact ⟨0, lh, A6, c6, by omega, rfl, by simp [datL], rfl, o6, hB6⟩
      case round =>
        clear o6 hB6
        obtain ⟨k, l2, A2, c2, hk, rfl, hl2, rfl, o2, hB⟩ := hrel
        have hl2l : l2.length ≤ 200300 := by
          rw [hl2, List.length_append, datL_len]
          have := sum_take L k
          have := HSM.out
          omega
        have HL2 := Lib.hid hl2
        clear hl2
        by_cases hlk : k < n
        · obtain ⟨ad, b, l, Ai, ci, hA, hab, hz_, c0, c1_, hci, hrl, hb256⟩ := (HR.out.mv hB).at_ hlk
          subst hA
          have hlSM := HLB.out _ (List.mem_of_getElem? hz_)
          have HZ := Lib.hid (dirL_take 0 hz_)
          simp only at hlSM
          clear hz_
          obtain ⟨N3, hN3⟩ : ∃ N3, l2.length + l.length = N3 := ⟨_, rfl⟩
          go_wp2_with (at_builtin; refine wpList_app8g (l := l2) rfl (.tmp 72) (.tmp 77) _ (by rfl) sl8 w.heap.size (by rfl) o2 (by rfl) hrl N3 (by omega) (by omega) hB.size ?_; intro A7 c7 w7 o7 hg_ b7)
          have hB7 := hB.trans b7
          go_roundw
          case rel => exact ⟨k + 1, l2 ++ l, A7, c7, by omega, by go_num, by rw [HL2.out, HZ.out.2.2, List.append_assoc], by rw [List.length_append, hN3], by rw [List.length_append, hN3]; exact o7, hB7⟩
          case measure => simp [intOf]; omega
        · obtain rfl : k = n := by omega
          have hfin : l2 = secL L := by rw [HL2.out, ← HLX.out, List.take_of_length_le (by rw [HN.out]; omega), ← HCS.out, HLH.out, secL, List.append_assoc]
          have HF := Lib.hid hfin
          clear hfin
          go_wp2_with fail
          go_ret
          exact ⟨A2, c2, by rw [← HF.out]; rfl, by rw [← HF.out]; exact o2, hB⟩

set_option maxRecDepth 100000 in
set_option maxHeartbeats 3200000 in
theorem rwrite25_any (A : Option Addr) (n c : Nat) (L : List (Nat × List UInt8)) (w : World) (hr : RdS w A n L) (hn : n ≤ 1000000) :
    Calls Try.prog 19 #[.slice A n c] w fun e w' => ∃ A' c', e = .returned (.tuple #[.slice A' (wrL L).length c', .int .i64 (ckS L)]) ∧ w'.ownsRow w.heap.size 5 1 (.slice A' (wrL L).length c') (wrL L).length ((wrL L).map b8) ∧ Below w.heap.size w w' := by
  have HR := Lib.hid hr
  clear hr
  go_enter Try.func19, Try.ntmps19
  go_wp2_with fail
  refine (rcheck25_any A n c L _ HR.out hn).mono ?_
  rintro e w1 ⟨rfl, hB⟩
  by_cases hz0 : ckS L = 0
  · have HE := Lib.hid (show wrL L = secL L from by rw [wrL, if_pos hz0])
    have HB := Lib.hid (fun W (h : RdS W A n L) => rbytes25_any A n c L W h hz0)
    have HCK := Lib.hid hz0
    rw [hz0]
    clear hz0
    go_wp2_with fail
    refine (HB.out _ (HR.out.mv hB)).mono ?_
    rintro e w2 ⟨A2, c2, rfl, o2, b2⟩
    have o3 := own_low o2 (show w.heap.size ≤ _ from hB.size)
    have hB2 := hB.trans (b2.mono hB.size)
    obtain ⟨E, hE⟩ : ∃ E, secL L = E := ⟨_, rfl⟩
    rw [hE] at HE o3 ⊢
    clear hE o2
    go_wp2_with fail
    go_ret2
    exact ⟨A2, c2, by rw [HE.out, HCK.out]; rfl, by rw [HE.out]; exact o3, hB2⟩
  · have HE := Lib.hid (show wrL L = [] from by rw [wrL, if_neg hz0])
    have HK := Lib.hid (fun W (h : RdS W A n L) => rcheck25_any A n c L W h hn)
    obtain ⟨v, hv⟩ : ∃ v, ckS L = v := ⟨_, rfl⟩
    rw [hv] at hz0 HK ⊢
    have HV := Lib.hid hv
    have hd : (v != 0) = true := by simpa using hz0
    clear hv hz0
    go_wp2_with fail
    refine (HK.out _ (HR.out.mv hB)).mono ?_
    rintro e w2 ⟨rfl, b2⟩
    have hB2 := hB.trans (b2.mono hB.size)
    go_wp2_with fail
    go_ret2
    exact ⟨none, 0, by rw [HE.out, HV.out]; rfl, by rw [HE.out]; exact World.ownsRow_nil _ _ _ _, hB2⟩

end Go.Proofs.Yteaaiacgebikpaa
