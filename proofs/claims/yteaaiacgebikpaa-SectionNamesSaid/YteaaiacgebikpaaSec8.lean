/- The contracts of the reference's Find and of Length, of both sides. Each states its conditions. -/
import Derived.Test.YteaaiacgebikpaaSec7
namespace Go.Proofs.Yteaaiacgebikpaa
open Go.RowKit Wire Crc
set_option linter.unusedVariables false

set_option maxRecDepth 100000 in
set_option maxHeartbeats 3200000 in
theorem rfind25_any (A : Option Addr) (n c : Nat) (L : List (Nat × List UInt8)) (kd : Nat) (w : World) (hr : RdS w A n L) (hn : n ≤ 1000000) (hk : kd < 256) (hLb : ∀ p ∈ L, p.2.length ≤ 1000000) :
    Calls Try.prog 20 #[.slice A n c, .int .u8 (kd : Int)] w fun e w' => ∃ A' c', e = .returned (.tuple #[.slice A' (fnL L kd).length c', .int .i64 (fnE25 L kd)]) ∧ w'.ownsRow w.heap.size 5 1 (.slice A' (fnL L kd).length c') (fnL L kd).length ((fnL L kd).map b8) ∧ Below w.heap.size w w' := by
  have HL := Lib.hid hr.1
  have HLB := Lib.hid hLb
  have HR := Lib.hid hr
  clear hr hLb
  go_enter Try.func20, Try.ntmps20
  go_wp2_with fail
  refine (rcheck25_any A n c L _ HR.out hn).mono ?_
  rintro e w1 ⟨rfl, hB0⟩
  by_cases hz0 : ckS L = 0
  rotate_left
  · have HE := Lib.hid (show fnL L kd = [] ∧ fnE25 L kd = ckS L from ⟨by rw [fnL, if_neg hz0], by rw [fnE25, if_neg hz0]⟩)
    have HK := Lib.hid (fun W (h : RdS W A n L) => rcheck25_any A n c L W h hn)
    obtain ⟨v, hv⟩ : ∃ v, ckS L = v := ⟨_, rfl⟩
    rw [hv] at hz0 HE HK ⊢
    have hd : (v != 0) = true := by simpa using hz0
    clear hv hz0
    go_wp2_with fail
    refine (HK.out _ (HR.out.mv hB0)).mono ?_
    rintro e w2 ⟨rfl, b2⟩
    have hB2 := hB0.trans (b2.mono hB0.size)
    go_wp2_with fail
    go_ret2
    exact ⟨none, 0, by rw [HE.out.1, HE.out.2]; rfl, by rw [HE.out.1]; exact World.ownsRow_nil _ _ _ _, hB2⟩
  have HCK := Lib.hid hz0
  rw [hz0]
  clear hz0
  go_wp2_with fail
  go_loopw [6] (fun i wr => ∃ j : Nat, j ≤ n ∧ i = .int .i64 (j : Int) ∧ (L.find? fun p => p.1 == kd) = (L.drop j).find? (fun p => p.1 == kd) ∧ Below w.heap.size w wr) (fun i _ => n - (intOf i).toNat)
  case atStart => exact ⟨0, by omega, rfl, rfl, hB0⟩
  case round =>
    clear hB0
    obtain ⟨j, hj, rfl, hf, hB⟩ := hrel
    by_cases hlt : j < n
    · obtain ⟨ad, b, l, Ai, ci, hA, hab, hz, c0, c1, hci, hrl, hb256⟩ := (HR.out.mv hB).at_ hlt
      subst hA
      have hlb := HLB.out _ (List.mem_of_getElem? hz)
      simp only at hlb
      rw [drop_get hz] at hf
      have HF := Lib.hid hf
      have hRL := Reads.al hrl (.cells #[] 5)
      clear hz hf hrl
      by_cases hbk : b = kd
      · subst hbk
        have HE := Lib.hid (show fnL L b = l ∧ fnE25 L b = 0 from by
          have h : (L.find? fun p => p.1 == b) = some (b, l) := by rw [HF.out, List.find?_cons_of_pos (by simp)]
          exact ⟨by rw [fnL, if_pos HCK.out, h]; rfl, by rw [fnE25, if_pos HCK.out, h]; rfl⟩)
        have d0 : ((b : Int) == (b : Int)) = true := by simp
        have oe := own_empty wr hB.size 5 1
        have hBe := hB.alloc hB.size (.cells #[] 5)
        have e1 : (wr.alloc (.cells #[] 5)).cell? { block := (ad.add (j * 2)).block, off := (ad.add (j * 2)).off + 1 } = some (.slice Ai l.length ci) := (World.cell?_alloc_lt wr (.cells #[] 5) _ (by show (ad.add (j * 2)).block < _; rw [block_of_add]; exact hab)).trans c1
        go_wp2_with (at_builtin; refine wpList_app8g (l := []) rfl (.tmp 25) (.tmp 30) _ (by rfl) sl8 w.heap.size (by rfl) oe (by rfl) hRL l.length (by omega) (by omega) hBe.size ?_; intro A7 c7 w7 o7 hg_ b7)
        rw [List.nil_append] at o7
        have hB7 := hBe.trans b7
        go_ret2
        exact ⟨A7, c7, by rw [HE.out.1, HE.out.2]; rfl, by rw [HE.out.1]; exact o7, hB7⟩
      · have HN := Lib.hid (show (L.find? fun p => p.1 == kd) = (L.drop (j + 1)).find? (fun p => p.1 == kd) from by rw [HF.out, List.find?_cons_of_neg (by simp; exact hbk)])
        have d0 : ((b : Int) == (kd : Int)) = false := by simp; omega
        clear hRL hbk
        go_wp2_with fail
        go_roundw
        case rel => exact ⟨j + 1, by omega, by go_num, HN.out, hB⟩
        case measure => simp [intOf]; omega
    · have HE := Lib.hid (show fnL L kd = [] ∧ fnE25 L kd = 6 from by
        have h : (L.find? fun p => p.1 == kd) = none := by rw [hf, List.drop_of_length_le (by rw [HL.out]; omega)]; rfl
        exact ⟨by rw [fnL, if_pos HCK.out, h]; rfl, by rw [fnE25, if_pos HCK.out, h]; rfl⟩)
      clear hf
      go_wp2_with fail
      go_ret2
      exact ⟨none, 0, by rw [HE.out.1, HE.out.2]; rfl, by rw [HE.out.1]; exact World.ownsRow_nil _ _ _ _, hB⟩

/-- A slice of ints. -/
def RdY (w : World) (A : Option Addr) (n : Nat) (l : List Int) : Prop := Reads w w.heap.size 1 A n (l.map (Value.int .i64)) ∧ ∀ x ∈ l, -9223372036854775808 ≤ x ∧ x ≤ 9223372036854775807
theorem RdY.mv {w w' : World} {A : Option Addr} {n : Nat} {l : List Int} (h : RdY w A n l) (hb : Below w.heap.size w w') : RdY w' A n l := ⟨h.1.mv hb, h.2⟩
theorem RdY.len {w : World} {A : Option Addr} {n : Nat} {l : List Int} (h : RdY w A n l) : l.length = n := by simpa using h.1.1
theorem RdY.at_ {w : World} {A : Option Addr} {n : Nat} {l : List Int} (h : RdY w A n l) {k : Nat} (hk : k < n) :
    ∃ ad z, A = some ad ∧ ad.block < w.heap.size ∧ l[k]? = some z ∧ w.cell? (ad.add k) = some (.int .i64 z) := by
  have hl : k < l.length := by rw [h.len]; exact hk
  obtain ⟨ad, u, rfl, hb, hx, hc⟩ := h.1.at_ hk
  rw [List.getElem?_map, List.getElem?_eq_getElem hl] at hx
  simp at hx
  exact ⟨ad, l[k], rfl, hb, List.getElem?_eq_getElem hl, by rw [hc, ← hx]⟩
theorem RdY.toZ {w : World} {A : Option Addr} {n : Nat} {l : List Int} (h : RdY w A n l) (h0 : (l.any fun x => decide (x < 0)) = false) : RdZ w A n (l.map Int.toNat) := by
  have hp : ∀ x ∈ l, 0 ≤ x := fun x hx => by have := List.any_eq_false.1 h0 x hx; simpa using this
  have e : (l.map Int.toNat).map vI = l.map (Value.int .i64) := by
    rw [List.map_map]
    exact List.map_congr_left fun x hx => by have := hp x hx; simp [vI]; omega
  refine ⟨by rw [e]; exact h.1, fun x hx => ?_⟩
  obtain ⟨y, hy, rfl⟩ := List.mem_map.1 hx
  have := h.2 y hy
  omega
/-- What Length answers. -/
def lgE (l : List Int) : Int := if (l.any fun x => decide (x < 0)) then 8 else if 7 < l.length then 4 else if lnB (l.map Int.toNat) then 0 else 4
def lgV (l : List Int) : Int := if lgE l = 0 then lnV (l.map Int.toNat) else 0
theorem lnW_ok {l : List Nat} (h : lnB l = true) : lnW l = lnV l := by
  unfold lnB at h
  unfold lnW lnV
  cases hl : lnR l with
  | none => rw [hl] at h; cases h
  | some m => rfl
theorem any_drop {l : List Int} {j : Nat} {z : Int} (h : l[j]? = some z) : ((l.drop j).any fun x => decide (x < 0)) = (decide (z < 0) || ((l.drop (j + 1)).any fun x => decide (x < 0))) := by
  rw [drop_get h]; rfl

set_option maxRecDepth 100000 in
set_option maxHeartbeats 1600000 in
theorem lengthy25_any (A : Option Addr) (n c : Nat) (l : List Int) (w : World) (hr : RdY w A n l) (hn : n ≤ 1000000) :
    Calls Try.prog 21 #[.slice A n c] w fun e w' => e = .returned (.tuple #[.int .i64 (lgV l), .int .i64 (lgE l)]) ∧ w = w' := by
  have HN := Lib.hid hr.len
  go_enter Try.func21, Try.ntmps21
  go_wp2_with fail
  go_loopw [10] (fun i wr => ∃ j : Nat, j ≤ n ∧ i = .int .i64 (j : Int) ∧ (l.any fun x => decide (x < 0)) = ((l.drop j).any fun x => decide (x < 0)) ∧ w = wr) (fun i _ => n - (intOf i).toNat)
  case atStart => exact ⟨0, by omega, rfl, rfl, rfl⟩
  case round =>
    obtain ⟨j, hj, rfl, hf, rfl⟩ := hrel
    by_cases hlt : j < n
    · obtain ⟨ad, z, hA, hab, hz, c0⟩ := hr.at_ hlt
      have HA := Lib.hid hA
      subst hA
      rw [any_drop hz] at hf
      have HF := Lib.hid hf
      clear hz hf
      by_cases h0 : z < 0
      · have HE := Lib.hid (show lgE l = 8 from by rw [lgE, HF.out, decide_eq_true h0]; rfl)
        have HV := Lib.hid (show lgV l = 0 from by rw [lgV, HE.out]; rfl)
        go_wp2_with fail
        go_ret2
        exact ⟨by rw [HE.out, HV.out]; rfl, rfl⟩
      · have HM := Lib.hid (show (l.any fun x => decide (x < 0)) = ((l.drop (j + 1)).any fun x => decide (x < 0)) from by rw [HF.out, decide_eq_false h0]; rfl)
        go_wp2_with fail
        go_roundw
        case rel => exact ⟨j + 1, by omega, by go_num, HM.out, by trivial⟩
        case measure => simp [intOf]; omega
    · have hany : (l.any fun x => decide (x < 0)) = false := by rw [hf, List.drop_of_length_le (by rw [HN.out]; omega)]; rfl
      have HZ := Lib.hid (hr.toZ hany)
      have HANY := Lib.hid hany
      clear hf hany
      by_cases h7 : 7 < n
      · have HE := Lib.hid (show lgE l = 4 from by rw [lgE, HANY.out, HN.out, if_neg (by simp), if_pos h7])
        have HV := Lib.hid (show lgV l = 0 from by rw [lgV, HE.out]; rfl)
        have h7' : (7 : Int) < (n : Int) := by omega
        go_wp2_with fail
        go_ret2
        exact ⟨by rw [HE.out, HV.out]; rfl, by trivial⟩
      have h7' : ¬ (7 : Int) < (n : Int) := by omega
      have HE0 := Lib.hid (show lgE l = if lnB (l.map Int.toNat) then 0 else 4 from by rw [lgE, HANY.out, HN.out, if_neg (by simp), if_neg h7])
      go_wp2_with fail
      refine (length25_any A n c _ _ HZ.out hn).mono ?_
      rintro e w8 ⟨rfl, rfl⟩
      cases hb : lnB (l.map Int.toNat)
      · have HE := Lib.hid (show lgE l = 4 from by rw [HE0.out, hb]; rfl)
        have HV := Lib.hid (show lgV l = 0 from by rw [lgV, HE.out]; rfl)
        clear hb
        go_wp2_with fail
        go_ret2
        exact ⟨by rw [HE.out, HV.out]; rfl, by trivial⟩
      · have HE := Lib.hid (show lgE l = 0 from by rw [HE0.out, hb]; rfl)
        have HV := Lib.hid (show lgV l = lnV (l.map Int.toNat) from by rw [lgV, HE.out]; rfl)
        clear hb
        go_wp2_with fail
        go_ret2
        exact ⟨by rw [HE.out, HV.out]; rfl, by trivial⟩

set_option maxRecDepth 100000 in
set_option maxHeartbeats 1600000 in
theorem rlengthy25_any (A : Option Addr) (n c : Nat) (l : List Int) (w : World) (hr : RdY w A n l) (hn : n ≤ 1000000) :
    Calls Try.prog 22 #[.slice A n c] w fun e w' => e = .returned (.tuple #[.int .i64 (lgV l), .int .i64 (lgE l)]) ∧ w = w' := by
  have HN := Lib.hid hr.len
  go_enter Try.func22, Try.ntmps22
  go_wp2_with fail
  go_loopw [4] (fun i wr => ∃ j : Nat, j ≤ n ∧ i = .int .i64 (j : Int) ∧ (l.any fun x => decide (x < 0)) = ((l.drop j).any fun x => decide (x < 0)) ∧ w = wr) (fun i _ => n - (intOf i).toNat)
  case atStart => exact ⟨0, by omega, rfl, rfl, rfl⟩
  case round =>
    obtain ⟨j, hj, rfl, hf, rfl⟩ := hrel
    by_cases hlt : j < n
    · obtain ⟨ad, z, hA, hab, hz, c0⟩ := hr.at_ hlt
      have HA := Lib.hid hA
      subst hA
      rw [any_drop hz] at hf
      have HF := Lib.hid hf
      clear hz hf
      by_cases h0 : z < 0
      · have HE := Lib.hid (show lgE l = 8 from by rw [lgE, HF.out, decide_eq_true h0]; rfl)
        have HV := Lib.hid (show lgV l = 0 from by rw [lgV, HE.out]; rfl)
        go_wp2_with fail
        go_ret2
        exact ⟨by rw [HE.out, HV.out]; rfl, rfl⟩
      · have HM := Lib.hid (show (l.any fun x => decide (x < 0)) = ((l.drop (j + 1)).any fun x => decide (x < 0)) from by rw [HF.out, decide_eq_false h0]; rfl)
        go_wp2_with fail
        go_roundw
        case rel => exact ⟨j + 1, by omega, by go_num, HM.out, by trivial⟩
        case measure => simp [intOf]; omega
    · have hany : (l.any fun x => decide (x < 0)) = false := by rw [hf, List.drop_of_length_le (by rw [HN.out]; omega)]; rfl
      have HZ := Lib.hid (hr.toZ hany)
      have HANY := Lib.hid hany
      clear hf hany
      by_cases h7 : 7 < n
      · have HE := Lib.hid (show lgE l = 4 from by rw [lgE, HANY.out, HN.out, if_neg (by simp), if_pos h7])
        have HV := Lib.hid (show lgV l = 0 from by rw [lgV, HE.out]; rfl)
        have h7' : (7 : Int) < (n : Int) := by omega
        go_wp2_with fail
        go_ret2
        exact ⟨by rw [HE.out, HV.out]; rfl, by trivial⟩
      have h7' : ¬ (7 : Int) < (n : Int) := by omega
      have HE0 := Lib.hid (show lgE l = if lnB (l.map Int.toNat) then 0 else 4 from by rw [lgE, HANY.out, HN.out, if_neg (by simp), if_neg h7])
      have HRL := Lib.hid (fun W (h : RdZ W A n (l.map Int.toNat)) => rlength25_any A n c _ W h hn)
      obtain ⟨v, hv⟩ : ∃ v, lnW (l.map Int.toNat) = v := ⟨_, rfl⟩
      have hd := lnW_neg (l.map Int.toNat)
      rw [hv] at hd HRL
      have HVV := Lib.hid hv
      clear hv
      go_wp2_with fail
      refine (HRL.out _ HZ.out).mono ?_
      rintro e w8 ⟨rfl, rfl⟩
      cases hb : lnB (l.map Int.toNat)
      · have HE := Lib.hid (show lgE l = 4 from by rw [HE0.out, hb]; rfl)
        have HV := Lib.hid (show lgV l = 0 from by rw [lgV, HE.out]; rfl)
        rw [hb] at hd
        have hd2 : decide (v < 0) = true := hd
        clear hb hd
        go_wp2_with fail
        go_ret2
        exact ⟨by rw [HE.out, HV.out]; rfl, by trivial⟩
      · have HE := Lib.hid (show lgE l = 0 from by rw [HE0.out, hb]; rfl)
        have HV := Lib.hid (show lgV l = v from by rw [lgV, HE.out, if_pos rfl, ← lnW_ok hb, HVV.out])
        rw [hb] at hd
        have hd2 : decide (v < 0) = false := hd
        clear hb hd
        go_wp2_with fail
        refine (HRL.out _ HZ.out).mono ?_
        rintro e w8 ⟨rfl, rfl⟩
        go_wp2_with fail
        go_ret2
        exact ⟨by rw [HE.out, HV.out]; rfl, by trivial⟩

end Go.Proofs.Yteaaiacgebikpaa
