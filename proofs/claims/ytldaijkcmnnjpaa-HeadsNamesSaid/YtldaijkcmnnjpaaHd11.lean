/- Contracts and laws of a chapter that its statement of names leans on. Each states its conditions. -/
import Derived.Test.YtldaijkcmnnjpaaHd10
namespace Go.Proofs.Ytldaijkcmnnjpaa
open Go.RowKit Wire
set_option linter.unusedVariables false
/-- The bytes of a chain, and of chains. -/
def adL (l : List Nat) : List UInt8 := (l.map fun a => vry (a / 8)).flatten
def chL (l : List Nat) : List UInt8 := vry l.length ++ adL l
def cfL (LL : List (List Nat)) : List UInt8 := (LL.map chL).flatten
def csL (LL : List (List Nat)) : List UInt8 := vry LL.length ++ cfL LL
def wcsL (LL : List (List Nat)) : List UInt8 := if csB LL then csL LL else []
def wcsE (LL : List (List Nat)) : Int := if csB LL then 0 else 8
theorem adL_take {l : List Nat} {k z : Nat} (h : l[k]? = some z) : adL (l.take (k + 1)) = adL (l.take k) ++ vry (z / 8) := by
  simp only [adL]; rw [List.take_add_one, h]; simp
theorem cfL_take {LL : List (List Nat)} {k : Nat} {l : List Nat} (h : LL[k]? = some l) : cfL (LL.take (k + 1)) = cfL (LL.take k) ++ chL l := by
  simp only [cfL]; rw [List.take_add_one, h]; simp
theorem adL_len (l : List Nat) : (adL l).length ≤ 10 * l.length := by
  induction l with
  | nil => simp [adL]
  | cons x l ih => have := (vry_len (x / 8)).2; simp only [adL, List.map_cons, List.flatten_cons, List.length_append, List.length_cons] at ih ⊢; omega
theorem chL_len (l : List Nat) : (chL l).length ≤ 10 + 10 * l.length := by
  have h1 := adL_len l
  have h2 := (vry_len l.length).2
  simp only [chL, List.length_append]; omega
theorem cfL_len {LL : List (List Nat)} (h : ∀ l ∈ LL, l.length ≤ 410) : (cfL LL).length ≤ 4110 * LL.length := by
  induction LL with
  | nil => simp [cfL]
  | cons x l ih =>
    have h1 := ih (fun y hy => h y (by simp [hy]))
    have h2 := chL_len x
    have h3 := h x (by simp)
    simp only [cfL, List.map_cons, List.flatten_cons, List.length_append, List.length_cons] at h1 ⊢; omega
theorem csB_n {LL : List (List Nat)} (h : csB LL = true) : 0 < LL.length ∧ LL.length ≤ 16 ∧ ∀ l ∈ LL, l.length ≤ 410 := by
  simp only [csB, Bool.and_eq_true, decide_eq_true_eq, List.all_eq_true] at h
  refine ⟨h.2.1, h.2.2, fun l hl => ?_⟩
  have := h.1 l hl
  simp only [chB, Bool.and_eq_true, decide_eq_true_eq] at this
  exact this.1
theorem hput1_any (B : Nat) (A0 : Option Addr) (c0 : Nat) (l0 l1 : List UInt8) (v : Nat) (hl : l0 ++ vry v = l1) (w : World) (hown : w.ownsRow B 5 1 (.slice A0 l0.length c0) l0.length (l0.map b8)) (hz : B ≤ w.heap.size) (hv : v < 18446744073709551616) (hn0 : l0.length ≤ 1000000) :
    Calls Try.prog 83 #[.slice A0 l0.length c0, .slice (some ⟨w.heap.size, 0, none⟩) 1 1] (w.alloc (.cells #[.int .u64 (v : Int)] 55)) fun e w' =>
      ∃ A' c', e = .returned (.slice A' l1.length c') ∧ w'.ownsRow B 5 1 (.slice A' l1.length c') l1.length (l1.map b8) ∧ Below B w w' := by
  have HP := hput_any B A0 l0.length c0 l0 w.heap.size 1 1 [v] (w.alloc (.cells #[.int .u64 (v : Int)] 55)) (own_alloc_ hown _) (by rw [alloc_size]; omega) (Blk.new w _ _) rfl (by intro n hn; simp at hn; omega) (by omega) hn0
  rw [show l0 ++ vrs [v] = l1 from by rw [← hl]; simp [vrs]] at HP
  refine HP.mono ?_
  rintro e w' ⟨A', c', rfl, h1, h2, _⟩
  exact ⟨A', c', rfl, h1, ((Below.refl B w).alloc hz _).trans h2⟩
set_option maxRecDepth 100000 in
set_option maxHeartbeats 6400000 in
theorem writeChains_any (A : Option Addr) (n c : Nat) (LL : List (List Nat)) (w : World) (hr : RdC w A n LL) (hn : n ≤ 1000000) :
    Calls Try.prog 45 #[.slice A n c] w fun e w' => ∃ A' c', e = .returned (.tuple #[.slice A' (wcsL LL).length c', .int .i64 (wcsE LL)]) ∧ w'.ownsRow w.heap.size 5 1 (.slice A' (wcsL LL).length c') (wcsL LL).length ((wcsL LL).map b8) ∧ Below w.heap.size w w' := by
  have HN := Lib.hid hr.1
  have HR := Lib.hid hr
  clear hr
  cases hh : csB LL
  · have HV := Lib.hid (show wcsL LL = [] ∧ wcsE LL = 8 from by simp [wcsL, wcsE, hh])
    have HH := Lib.hid hh
    clear hh
    go_enter Try.func45, Try.ntmps45
    go_wp2_with fail
    refine (areChains_any A n c LL _ HR.out hn).mono ?_
    rintro e w1 ⟨rfl, rfl⟩
    rw [HH.out]
    go_wp2_with fail
    go_ret2
    exact ⟨none, 0, by rw [HV.out.1, HV.out.2]; rfl, by rw [HV.out.1]; exact World.ownsRow_nil _ _ _ _, Below.refl _ _⟩
  have HV0 := Lib.hid (show wcsL LL = csL LL ∧ wcsE LL = 0 from by simp [wcsL, wcsE, hh])
  have hb := csB_n hh
  rw [HN.out] at hb
  have hn1 := hb.1
  have hn2 := hb.2.1
  have HD := Lib.hid hb.2.2
  have HH := Lib.hid hh
  clear hh hb
  go_enter Try.func45, Try.ntmps45
  go_wp2_with fail
  refine (areChains_any A n c LL _ HR.out hn).mono ?_
  rintro e w1 ⟨rfl, rfl⟩
  rw [HH.out]
  have hwn : IntKind.u64.wrap (n : Int) = (n : Int) := by rw [IntKind.wrap_u64]; omega
  go_wp2_with fail
  refine (hput1_any w.heap.size none 0 [] (vry n) n rfl w (World.ownsRow_nil _ _ _ _) (Nat.le_refl _) (by omega) (by simp)).mono ?_
  rintro e w3 ⟨A3, c3, rfl, o3, b3⟩
  go_wp2_with fail
  go_loopw [4, 19] (fun v i wr => ∃ (j : Nat) (l : List UInt8) (A1 : Option Addr) (c1 : Nat), j ≤ n ∧ i = .int .i64 (j : Int) ∧ l = vry n ++ cfL (LL.take j) ∧ v = .slice A1 l.length c1 ∧ wr.ownsRow w.heap.size 5 1 (.slice A1 l.length c1) l.length (l.map b8) ∧ Below w.heap.size w wr) (fun _ i _ => n - (intOf i).toNat)
  case atStart => exact ⟨0, vry n, A3, c3, by omega, rfl, by simp [cfL], rfl, o3, b3⟩
  case round =>
    obtain ⟨j, l, A1, c1, hj, rfl, hl, rfl, o1, hB⟩ := hrel
    have hmb : l.length ≤ 70000 := by
      rw [hl, List.length_append]
      have h1 := (vry_len n).2
      have h2 := cfL_len (LL := LL.take j) (fun x hx => HD.out x (List.mem_of_mem_take hx))
      have h3 : (LL.take j).length ≤ 16 := by rw [List.length_take]; omega
      omega
    have HL := Lib.hid hl
    clear hl
    have hzz := hB.size
    by_cases hlt : j < n
    · obtain ⟨ad, Ai, ci, li, hA, hab, hz, c0, hci, hri0⟩ := HR.out.at_ hlt
      have hrw : ∀ W, Below w.heap.size w W → RdU W Ai li.length li := fun W h => hri0.mv h
      replace c0 := (hB.cell (p := ad.add j) (by rw [block_of_add]; exact hab)).trans c0
      subst hA
      have HZ := Lib.hid (cfL_take hz)
      have hl4 := HD.out _ (List.mem_of_getElem? hz)
      have HZ0 := Lib.hid hz
      clear hz
      obtain ⟨l1, hl1⟩ : ∃ l1, l ++ vry li.length = l1 := ⟨_, rfl⟩
      have hm1 : l1.length ≤ 70010 := by rw [← hl1, List.length_append]; have := (vry_len li.length).2; omega
      have hwn2 : IntKind.u64.wrap (li.length : Int) = (li.length : Int) := by rw [IntKind.wrap_u64]; omega
      go_wp2_with fail
      refine (hput1_any w.heap.size A1 c1 l l1 li.length hl1 wr o1 hzz (by omega) (by omega)).mono ?_
      rintro e w4 ⟨A4, c4, rfl, o4, b4⟩
      have HRI := Lib.hid (hrw)
      have HL1 := Lib.hid hl1
      clear hl1 c0
      have hB4 := hB.trans b4
      go_wp2_with fail
      go_loopw [4, 31] (fun v y wr => ∃ (k : Nat) (l2 : List UInt8) (A2 : Option Addr) (c2 : Nat), k ≤ li.length ∧ y = .int .i64 (k : Int) ∧ l2 = l1 ++ adL (li.take k) ∧ v = .slice A2 l2.length c2 ∧ wr.ownsRow w.heap.size 5 1 (.slice A2 l2.length c2) l2.length (l2.map b8) ∧ Below w.heap.size w wr) (fun _ i _ => li.length - (intOf i).toNat)
      case atStart => exact ⟨0, l1, A4, c4, by omega, rfl, by simp [adL], rfl, o4, hB4⟩
      case round =>
        have hB0 := hB
        clear hB
        obtain ⟨k, l2, A2, c2, hk, rfl, hl2, rfl, o2, hB⟩ := hrel
        have hm2 : l2.length ≤ 80000 := by
          rw [hl2, List.length_append]
          have h1 := adL_len (li.take k)
          have h3 : (li.take k).length ≤ 410 := by rw [List.length_take]; omega
          omega
        have HL2 := Lib.hid hl2
        clear hl2
        by_cases hlk : k < li.length
        · obtain ⟨ad2, z, hA2, hab2, hy, c1_, hz64⟩ := (RdU.at_ (w := wr) (HRI.out _ hB) hlk)
          subst hA2
          have HQ := Lib.hid (adL_take hy)
          clear hy
          obtain ⟨zq, hzq⟩ : ∃ zq, z / 8 = zq := ⟨_, rfl⟩
          rw [hzq] at HQ
          have hq : (z : Int) / 8 = (zq : Int) := by omega
          have hzq2 : zq < 18446744073709551616 := by omega
          have hwq : IntKind.u64.wrap (zq : Int) = (zq : Int) := by rw [IntKind.wrap_u64]; omega
          obtain ⟨l3, hl3⟩ : ∃ l3, l2 ++ vry zq = l3 := ⟨_, rfl⟩
          have hl3' : l3.length ≤ 80010 := by rw [← hl3, List.length_append]; have := (vry_len zq).2; omega
          clear hzq
          go_wp2_with fail
          refine (hput1_any w.heap.size A2 c2 l2 l3 zq hl3 _ o2 hB.size hzq2 (by omega)).mono ?_
          rintro e w5 ⟨A5, c5, rfl, o5, b5⟩
          have HL3 := Lib.hid hl3
          clear hl3 c1_
          go_wp2_with fail
          go_roundw
          case rel => exact ⟨k + 1, l3, A5, c5, by omega, by go_num, by rw [HQ.out, ← List.append_assoc, ← HL2.out, HL3.out], rfl, o5, hB.trans b5⟩
          case measure => simp [intOf]; omega
        · obtain rfl : k = li.length := by omega
          have hfull := Lib.hid (show l1 ++ adL li = l2 from by rw [HL2.out, List.take_length])
          go_wp2_with fail
          go_roundw
          case rel => exact ⟨j + 1, l2, A2, c2, by omega, by go_num, by rw [HZ.out, ← List.append_assoc, ← HL.out, chL, ← List.append_assoc, HL1.out, hfull.out], rfl, o2, hB⟩
          case measure => simp [intOf]; omega
    · obtain rfl : j = n := by omega
      have hll : l = csL LL := by rw [HL.out, List.take_of_length_le (by rw [HN.out]; omega), csL, HN.out]
      obtain ⟨E, hE⟩ : ∃ E, csL LL = E := ⟨_, rfl⟩
      rw [hE] at hll HV0
      subst hll
      go_wp2_with fail
      go_ret2
      exact ⟨A1, c1, by rw [HV0.out.1, HV0.out.2]; rfl, by rw [HV0.out.1]; exact o1, hB⟩

end Go.Proofs.Ytldaijkcmnnjpaa
