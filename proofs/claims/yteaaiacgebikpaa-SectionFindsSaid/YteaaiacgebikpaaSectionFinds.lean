/- The walk of SectionFinds. -/
import Derived.Test.YteaaiacgebikpaaSec5
import Derived.BigQuiet
namespace Go.Proofs.Yteaaiacgebikpaa
open Go.RowKit Wire Crc
set_option linter.unusedVariables false

theorem ordB_lt {L : List (Nat × List UInt8)} : ∀ {last : Nat} {p : Nat × List UInt8}, ordB last L = true → p ∈ L → last < p.1 := by
  induction L with
  | nil => intro last p _ h; cases h
  | cons q r ih =>
    intro last p h hp
    simp only [ordB, Bool.and_eq_true, decide_eq_true_eq] at h
    rcases List.mem_cons.1 hp with rfl | hp
    · exact h.1.1
    · have := ih h.2 hp; omega
/-- Each section is the one of its kind. -/
theorem find_at {L : List (Nat × List UInt8)} : ∀ {last j : Nat} {p : Nat × List UInt8}, ordB last L = true → L[j]? = some p → (L.find? fun q => q.1 == p.1) = some p := by
  induction L with
  | nil => intro last j p _ h; simp at h
  | cons q r ih =>
    intro last j p h hj
    have h0 := h
    simp only [ordB, Bool.and_eq_true, decide_eq_true_eq] at h
    rcases j with _ | j
    · simp at hj
      subst hj
      rw [List.find?_cons_of_pos (by simp)]
    · have hj' : r[j]? = some p := by simpa using hj
      have hlt := ordB_lt h.2 (List.mem_of_getElem? hj')
      rw [List.find?_cons_of_neg (by simp; omega)]
      exact ih h.2 hj'
/-- What a search answers, and whether there is one. -/
theorem find_law {L : List (Nat × List UInt8)} (kd : Nat) (h : ckS L = 0) : ((L.any fun p => p.1 == kd) = true → fnE25 L kd = 0) ∧ ((L.any fun p => p.1 == kd) = false → fnE25 L kd = 6 ∧ fnL L kd = []) ∧
    (∀ (j : Nat) (l : List UInt8), L[j]? = some (kd, l) → fnL L kd = l ∧ fnE25 L kd = 0) := by
  refine ⟨fun ha => ?_, fun ha => ?_, fun j l hj => ?_⟩
  · have h1 : (L.find? fun p => p.1 == kd).isSome = true := by
      rw [List.find?_isSome]
      obtain ⟨x, hx, hk⟩ := List.any_eq_true.1 ha
      exact ⟨x, hx, hk⟩
    rw [fnE25, if_pos h, if_pos h1]
  · have h1 : (L.find? fun p => p.1 == kd) = none := by
      rw [List.find?_eq_none]
      intro x hx
      have := List.any_eq_false.1 ha x hx
      simpa using this
    rw [fnE25, if_pos h, fnL, if_pos h, h1]
    exact ⟨rfl, rfl⟩
  · have h1 := find_at (ckS_ok h).2.1 hj
    simp only at h1
    rw [fnL, if_pos h, fnE25, if_pos h, h1]
    exact ⟨rfl, rfl⟩
theorem anyk_take {L : List (Nat × List UInt8)} {j kd : Nat} {p : Nat × List UInt8} (h : L[j]? = some p) : ((L.take (j + 1)).any fun q => q.1 == kd) = (((L.take j).any fun q => q.1 == kd) || (p.1 == kd)) := by
  rw [List.take_add_one, h]; simp

set_option maxRecDepth 100000 in
set_option maxHeartbeats 6400000 in
theorem sectionFinds_walk (w : World) (A : Option Addr) (n c : Nat) (L : List (Nat × List UInt8)) (hr : RdS w A n L) (hc : n ≤ c ∧ c ≤ 9223372036854775807) (kd : Nat) (hkd : kd < 256) :
    Calls Try.prog 4 #[.slice A n c, .int .u8 (kd : Int)] w fun e w' => e = .returned (.bool true) ∧ Below w.heap.size w w' := by
  have HN := Lib.hid hr.1
  have HR := Lib.hid hr
  clear hr
  go_enter Try.func4, Try.ntmps4
  go_wp2_with fail
  refine (alive25_any _).mono ?_
  rintro e w1 ⟨rfl, hB⟩
  go_wp2_with fail
  refine (great25_any A n c L _ (HR.out.mv hB) (by omega)).mono ?_
  rintro e wq hG
  unfold GrP at hG
  obtain ⟨gb, rfl, hg, rfl⟩ := hG
  cases gb
  rotate_left
  · go_wp2_with fail
    go_ret
    exact ⟨rfl, hB⟩
  obtain ⟨hn20, hle⟩ := hg rfl
  have HLE := Lib.hid (fun p hp => (by have := hle p hp; omega : p.2.length ≤ 1000000) : ∀ p ∈ L, p.2.length ≤ 1000000)
  clear hg hle
  go_wp2_with fail
  refine (rcheck25_any A n c L _ (HR.out.mv hB) (by omega)).mono ?_
  rintro e w2 ⟨rfl, b2⟩
  replace hB := hB.trans (b2.mono hB.size)
  clear b2
  by_cases hz0 : ckS L = 0
  rotate_left
  · obtain ⟨v, hv⟩ : ∃ v, ckS L = v := ⟨_, rfl⟩
    rw [hv] at hz0 ⊢
    have hd : (v != 0) = true := by simpa using hz0
    clear hv hz0
    go_wp2_with fail
    go_ret
    exact ⟨rfl, hB⟩
  have HCK := Lib.hid hz0
  have HLAW := Lib.hid (fun k => find_law (L := L) k hz0)
  rw [hz0]
  clear hz0
  have HF := Lib.hid (fun k (hk : k < 256) W (h : RdS W A n L) => find25_any A n c L k W h (by omega) hk HLE.out)
  go_wp2_with fail
  have hF0 := HF.out kd hkd _ (HR.out.mv hB)
  obtain ⟨FL, hFL⟩ : ∃ FL, fnL L kd = FL := ⟨_, rfl⟩
  obtain ⟨FE, hFE⟩ : ∃ FE, fnE25 L kd = FE := ⟨_, rfl⟩
  have HLW := Lib.hid (HLAW.out kd)
  rw [hFL, hFE] at hF0 HLW
  clear hFL hFE
  refine hF0.mono ?_
  clear hF0
  rintro e w3 ⟨B2, d2, rfl, o2, b3⟩
  replace o2 := own_low o2 (show w.heap.size ≤ _ from hB.size)
  replace hB := hB.trans (b3.mono hB.size)
  clear b3
  have hFlen : FL.length ≤ 100000000 := by
    cases ha : (L.any fun p => p.1 == kd) with
    | false => rw [(HLW.out.2.1 ha).2]; simp
    | true =>
      obtain ⟨x, hx, hk⟩ := List.any_eq_true.1 ha
      obtain ⟨j, hj, hjx⟩ := List.mem_iff_getElem.1 hx
      have hk' : x.1 = kd := by simpa using hk
      have h1 := (HLW.out.2.2 j x.2 (by rw [List.getElem?_eq_getElem hj, hjx, ← hk'])).1
      rw [h1]
      have := HLE.out x hx
      omega
  go_wp2_with fail
  go_loopw [8, 9] (fun f i wr => ∃ (j : Nat) (fd : Bool), j ≤ n ∧ i = .int .i64 (j : Int) ∧ f = .bool fd ∧ ((L.take j).any fun q => q.1 == kd) = fd ∧ wr.ownsRow w.heap.size 5 1 (.slice B2 FL.length d2) FL.length (FL.map b8) ∧ Below w.heap.size w wr) (fun _ i _ => n - (intOf i).toNat)
  case atStart => exact ⟨0, false, by omega, rfl, rfl, by simp, o2, hB⟩
  case round =>
    clear o2 hB
    obtain ⟨j, fd, hj, rfl, rfl, hfd, o2, hB⟩ := hrel
    have HFD := Lib.hid hfd
    clear hfd
    by_cases hlt : j < n
    · obtain ⟨ad, b, l, Ai, ci, hA, hab, hz, c0, c1_, hci, hrl, hb256⟩ := (HR.out.mv hB).at_ hlt
      have HZ := Lib.hid hz
      have HRL := Lib.hid hrl
      have HAB := Lib.hid (fun k (W : World) (hW : Below wr.heap.size wr W) (v : Value) (h : wr.cell? k = some v) (hk : k.block < wr.heap.size) => (hW.cell hk).trans h)
      have hll := HLE.out _ (List.mem_of_getElem? hz)
      simp only at hll
      have HA := Lib.hid hA
      clear hz hrl
      subst hA
      go_wp2_with fail
      have hF0 := HF.out b hb256 _ (HR.out.mv hB)
      rw [(HLAW.out b).2.2 j l HZ.out |>.1, (HLAW.out b).2.2 j l HZ.out |>.2] at hF0
      refine hF0.mono ?_
      clear hF0
      rintro e w4 ⟨A4, c4, rfl, o4, b4⟩
      have hc0 := HAB.out _ _ b4 _ c0 (by rw [block_of_add]; exact hab)
      have hc1 := HAB.out _ _ b4 _ c1_ (by show (ad.add (j * 2)).block < _; rw [block_of_add]; exact hab)
      have o2b := own_call o2 b4
      have hB4 := hB.trans (b4.mono hB.size)
      have hrl4 := HRL.out.mv b4
      have K1 := fun q_ => cvS25 (w := w4.drewN q_) c4 (Reads.drewN (own_rd o4) q_)
      have K2 := fun q_ => cvS25 (w := w4.drewN q_) ci (Reads.drewN hrl4 q_)
      have hc0q : ∀ q_, (w4.drewN q_).cell? (ad.add (j * 2)) = some (.int .u8 (b : Int)) := fun q_ => hc0
      have hc1q : ∀ q_, (w4.drewN q_).cell? { block := (ad.add (j * 2)).block, off := (ad.add (j * 2)).off + 1 } = some (.slice Ai l.length ci) := fun q_ => hc1
      clear c0 c1_
      go_wp2_with fail
      go_quiet (fail)
      have hB5 : Below w.heap.size w (w4.drewN nq) := below_drewN5 hB4 nq
      have hb5 : Below w4.heap.size w4 (w4.drewN nq) := below_drewN5 (Below.refl _ _) nq
      have o2c := own_call o2b hb5
      have o4c := own_call o4 hb5
      have d0 := hc0q nq
      have d1 := hc1q nq
      have hrl5 := hrl4.mv hb5
      clear hc0q hc1q K1 K2 hc0 hc1 o2b hB4 hrl4 b4 hb5 o4
      generalize w4.drewN nq = w5 at *
      by_cases hbk : b = kd
      · have HFA := Lib.hid (HLW.out.2.2 j l (by rw [← hbk]; exact HZ.out)).1
        have hfl : FL = l := HFA.out
        have HANY := Lib.hid (show ((L.take (j + 1)).any fun q => q.1 == kd) = true from by rw [anyk_take HZ.out]; simp [hbk])
        have e0 : ((b : Int) == (kd : Int)) = true := by simp; omega
        have K1 := fun q_ => cvS25 (w := w5.drewN q_) d2 (Reads.drewN (own_rd o2c) q_)
        have K2 := fun q_ => cvS25 (w := w5.drewN q_) ci (Reads.drewN hrl5 q_)
        have d1q : ∀ q_, (w5.drewN q_).cell? { block := (ad.add (j * 2)).block, off := (ad.add (j * 2)).off + 1 } = some (.slice Ai l.length ci) := fun q_ => d1
        clear hbk
        subst hfl
        go_wp2_with fail
        go_quiet (fail)
        go_wp2_with fail
        go_roundw
        case rel => exact ⟨j + 1, true, by omega, by go_num, rfl, HANY.out, own_call o2c (below_drewN5 (Below.refl _ _) nq), below_drewN5 hB5 nq⟩
        case measure => simp [intOf]; omega
      · have HANY := Lib.hid (show ((L.take (j + 1)).any fun q => q.1 == kd) = fd from by rw [anyk_take HZ.out, HFD.out]; simp; intro h; exact absurd h hbk)
        have e0 : ((b : Int) == (kd : Int)) = false := by simp; omega
        clear hbk
        go_wp2_with fail
        go_roundw
        case rel => exact ⟨j + 1, fd, by omega, by go_num, rfl, HANY.out, o2c, hB5⟩
        case measure => simp [intOf]; omega
    · have hany : (L.any fun q => q.1 == kd) = fd := by
        have h := HFD.out
        rwa [List.take_of_length_le (by rw [HN.out]; omega)] at h
      have HW := HLW.out
      cases fd
      · obtain ⟨f1, f2⟩ := HW.2.1 hany
        subst f1 f2
        clear HW hany HFD
        go_wp2_with fail
        go_ret
        exact ⟨rfl, hB⟩
      · have f1 := HW.1 hany
        subst f1
        clear HW hany HFD
        go_wp2_with fail
        go_ret
        exact ⟨rfl, hB⟩

end Go.Proofs.Yteaaiacgebikpaa
