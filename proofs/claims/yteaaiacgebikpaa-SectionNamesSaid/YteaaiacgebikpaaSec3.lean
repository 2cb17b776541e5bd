/- The contracts of the reference's Check, Great, Find, bytes.Clone, fixed. Each states its conditions. -/
import Derived.Test.YteaaiacgebikpaaSec2
import Derived.Lib.SliceRun
namespace Go.Proofs.Yteaaiacgebikpaa
open Go.RowKit Wire Crc
set_option linter.unusedVariables false

set_option maxRecDepth 100000 in
set_option maxHeartbeats 1600000 in
theorem rcheck25_any (A : Option Addr) (n c : Nat) (L : List (Nat × List UInt8)) (w : World) (hr : RdS w A n L) (hn : n ≤ 1000000) :
    Calls Try.prog 15 #[.slice A n c] w fun e w' => e = .returned (.int .i64 (ckS L)) ∧ Below w.heap.size w w' := by
  have HR := Lib.hid hr
  clear hr
  go_enter Try.func15, Try.ntmps15
  go_wp2_with fail
  refine (rordered25_any A n c L _ HR.out hn).mono ?_
  rintro e w1 ⟨rfl, hB0⟩
  cases ho : ordB 0 L
  · have HE := Lib.hid (ckS_no ho)
    clear ho
    go_wp2_with fail
    go_ret
    exact ⟨by rw [HE.out]; rfl, hB0⟩
  have HO := Lib.hid ho
  clear ho
  go_wp2_with fail
  refine (sizes25_any A n c L _ (HR.out.mv hB0) hn).mono ?_
  rintro e w2 ⟨A2, c2, rfl, hZ, b2⟩
  have HZ := Lib.hid hZ
  have hB := hB0.trans (b2.mono hB0.size)
  clear hZ b2 hB0
  go_wp2_with fail
  refine (rlength25_any A2 n c2 (lens L) _ HZ.out hn).mono ?_
  rintro e w8 ⟨rfl, rfl⟩
  obtain ⟨v, hv⟩ : ∃ v, lnW (lens L) = v := ⟨_, rfl⟩
  have hd := lnW_neg (lens L)
  rw [hv] at hd ⊢
  clear hv
  cases hb : lnB (lens L)
  · have HE := Lib.hid (show ckS L = 4 from by rw [ckS_yes HO.out, hb]; rfl)
    rw [hb] at hd
    have hd2 : decide (v < 0) = true := hd
    clear hb hd
    go_wp2_with fail
    go_ret
    exact ⟨by rw [HE.out]; rfl, hB⟩
  · have HE := Lib.hid (show ckS L = 0 from by rw [ckS_yes HO.out, hb]; rfl)
    rw [hb] at hd
    have hd2 : decide (v < 0) = false := hd
    clear hb hd
    go_wp2_with fail
    go_ret
    exact ⟨by rw [HE.out]; rfl, hB⟩

/-- What Great answers. -/
def GrP (n : Nat) (L : List (Nat × List UInt8)) (w : World) (e : Ending) (w' : World) : Prop := ∃ b : Bool, e = .returned (.bool b) ∧ (b = false → n ≤ 20 ∧ ∀ p ∈ L, p.2.length ≤ 200100) ∧ w = w'

set_option maxRecDepth 100000 in
set_option maxHeartbeats 3200000 in
theorem great25_any (A : Option Addr) (n c : Nat) (L : List (Nat × List UInt8)) (w : World) (hr : RdS w A n L) (hn : n ≤ 9223372036854775807) :
    Calls Try.prog 14 #[.slice A n c] w fun e w' => GrP n L w e w' := by
  have HL := Lib.hid hr.1
  go_enter Try.func14, Try.ntmps14
  go_wp2_with fail
  go_loopw [3] (fun i wr => ∃ j : Nat, j ≤ n ∧ j ≤ 21 ∧ i = .int .i64 (j : Int) ∧ (∀ p ∈ L.take j, p.2.length ≤ 200100) ∧ w = wr) (fun i _ => n - (intOf i).toNat)
  case atStart => exact ⟨0, by omega, by omega, rfl, by simp, rfl⟩
  case round =>
    obtain ⟨j, hj, hj2, rfl, hp, rfl⟩ := hrel
    have HP := Lib.hid hp
    clear hp
    by_cases hlt : j < n
    · have e1 : decide ((j : Int) < n) = true := by simp; omega
      by_cases hlt2 : j ≤ 20
      · have e2 : decide ((j : Int) ≤ 20) = true := by simp; omega
        obtain ⟨ad, b, l, Ai, ci, hA, hab, hz, c0, c1, hci, hrl, hb256⟩ := hr.at_ hlt
        subst hA
        have HZ := Lib.hid hz
        clear hz hrl c0
        by_cases hg : (1500 < l.length ∧ l.length ≤ 200000) ∨ 200100 < l.length
        · by_cases h1 : 200100 < l.length
          · have f1 : (1500 : Int) < (l.length : Int) := by omega
            have f2 : ¬ (l.length : Int) ≤ 200000 := by omega
            have f3 : (200100 : Int) < (l.length : Int) := by omega
            go_wp2_with fail
            go_ret
            exact ⟨true, rfl, by simp, rfl⟩
          · have f1 : (1500 : Int) < (l.length : Int) := by omega
            have f2 : (l.length : Int) ≤ 200000 := by omega
            go_wp2_with fail
            go_ret
            exact ⟨true, rfl, by simp, rfl⟩
        · have hle : l.length ≤ 200100 := by omega
          have f3 : ¬ (200100 : Int) < (l.length : Int) := by omega
          have HN := Lib.hid (show ∀ p ∈ L.take (j + 1), p.2.length ≤ 200100 from fun p hp => by
            rw [List.take_add_one, HZ.out] at hp
            rcases List.mem_append.1 hp with h | h
            · exact HP.out p h
            · simp at h; subst h; exact hle)
          by_cases h1 : 1500 < l.length
          · have f1 : (1500 : Int) < (l.length : Int) := by omega
            have f2 : ¬ (l.length : Int) ≤ 200000 := by omega
            go_wp2_with fail
            go_roundw
            case rel => exact ⟨j + 1, by omega, by omega, by go_num, HN.out, by trivial⟩
            case measure => simp [intOf]; omega
          · have f1 : ¬ (1500 : Int) < (l.length : Int) := by omega
            go_wp2_with fail
            go_roundw
            case rel => exact ⟨j + 1, by omega, by omega, by go_num, HN.out, by trivial⟩
            case measure => simp [intOf]; omega
      · have e2 : decide ((j : Int) ≤ 20) = false := by simp; omega
        have e3 : decide ((20 : Int) < (n : Int)) = true := by simp; omega
        have e4 : (20 : Int) < (n : Int) := by omega
        go_wp2_with fail
        go_ret
        exact ⟨true, by simp, by simp, rfl⟩
    · obtain rfl : j = n := by omega
      have hall : ∀ p ∈ L, p.2.length ≤ 200100 := by
        have h := HP.out
        rwa [List.take_of_length_le (by rw [HL.out]; omega)] at h
      go_wp2_with fail
      go_ret
      exact ⟨decide (20 < j), by simp; omega, fun h => ⟨by simpa using h, hall⟩, rfl⟩

set_option maxRecDepth 100000 in
set_option maxHeartbeats 1600000 in
theorem clone_any (A : Option Addr) (n c : Nat) (l : List UInt8) (w : World) (hr : Rb w A n l) (hn : n ≤ 1000000) :
    Calls Try.prog 31 #[.slice A n c] w fun e w' => ∃ A' c', e = .returned (.slice A' l.length c') ∧ w'.ownsRow w.heap.size 5 1 (.slice A' l.length c') l.length (l.map b8) ∧ Below w.heap.size w w' := by
  have hl := hr.len8
  subst hl
  have q := fun W (a : Option Addr) (n c : Nat) => Lib.run_eql_slice_nil (P := Try.prog) W _ _ a n c 0 0 Try.underlying22
  rcases A with _ | ad
  · have hl0 : l = [] := by
      rcases Nat.eq_zero_or_pos l.length with h | h
      · exact List.eq_nil_of_length_eq_zero h
      · obtain ⟨ad, e, _⟩ := hr.2 h; cases e
    subst hl0
    go_enter Try.func31, Try.ntmps31
    go_wp2_with fail
    go_ret
    exact ⟨none, 0, rfl, World.ownsRow_nil _ _ _ _, Below.refl _ _⟩
  have hR := Reads.al hr (.cells #[] 5)
  have ho := own_empty w (Nat.le_refl _) 5 1
  go_enter Try.func31, Try.ntmps31
  go_wp2_with (at_builtin; refine wpList_app8 (l := []) rfl (.tmp 5) (.tmp 6) _ (by rfl) sl8 w.heap.size (by rfl) ho (by rfl) hR l.length (by omega) (by omega) (by simp) ?_; intro A6 c6 w6 o6 b6; rw [List.nil_append] at o6)
  go_ret
  exact ⟨A6, c6, rfl, o6, ((Below.refl _ _).alloc (Nat.le_refl _) _).trans b6⟩

set_option maxRecDepth 100000 in
set_option maxHeartbeats 1600000 in
theorem fixed25_any (x : Nat) (hx : x < 4294967296) (w : World) :
    Calls Try.prog 38 #[.int .u32 (x : Int)] w fun e w' => ∃ A c, e = .returned (.slice A 4 c) ∧ w'.ownsRow w.heap.size 5 1 (.slice A 4 c) 4 ((ltl 4 x).map b8) ∧ Below w.heap.size w w' := by
  have hB := fixed_any x 4 (by omega) (by omega)
  have h1 : fxB x 4 = true := by simp [fxB, wdB]; omega
  have hw : IntKind.u64.wrap (x : Int) = (x : Int) := by rw [IntKind.wrap_u64]; omega
  rw [(fx_yes h1).1, (fx_yes h1).2, show (4 : Int).toNat = 4 from rfl, ltl_len] at hB
  have HB := Lib.hid hB
  clear hB h1
  go_enter Try.func38, Try.ntmps38
  go_wp2_with fail
  refine (HB.out w).mono ?_
  rintro e w1 ⟨A1, c1, rfl, o1, b⟩
  go_wp2_with fail
  go_ret
  exact ⟨A1, c1, rfl, o1, b⟩

/-- What Find answers. -/
def fnL (L : List (Nat × List UInt8)) (k : Nat) : List UInt8 := if ckS L = 0 then ((L.find? fun p => p.1 == k).map (·.2)).getD [] else []
def fnE25 (L : List (Nat × List UInt8)) (k : Nat) : Int := if ckS L = 0 then (if (L.find? fun p => p.1 == k).isSome then 0 else 6) else ckS L

set_option maxRecDepth 100000 in
set_option maxHeartbeats 3200000 in
theorem find25_any (A : Option Addr) (n c : Nat) (L : List (Nat × List UInt8)) (kd : Nat) (w : World) (hr : RdS w A n L) (hn : n ≤ 1000000) (hk : kd < 256) (hLb : ∀ p ∈ L, p.2.length ≤ 1000000) :
    Calls Try.prog 16 #[.slice A n c, .int .u8 (kd : Int)] w fun e w' => ∃ A' c', e = .returned (.tuple #[.slice A' (fnL L kd).length c', .int .i64 (fnE25 L kd)]) ∧ w'.ownsRow w.heap.size 5 1 (.slice A' (fnL L kd).length c') (fnL L kd).length ((fnL L kd).map b8) ∧ Below w.heap.size w w' := by
  have HL := Lib.hid hr.1
  have HLB := Lib.hid hLb
  have HR := Lib.hid hr
  clear hr hLb
  go_enter Try.func16, Try.ntmps16
  go_wp2_with fail
  refine (check25_any A n c L _ HR.out hn).mono ?_
  rintro e w1 ⟨rfl, hB0⟩
  by_cases hz0 : ckS L = 0
  rotate_left
  · have HE := Lib.hid (show fnL L kd = [] ∧ fnE25 L kd = ckS L from ⟨by rw [fnL, if_neg hz0], by rw [fnE25, if_neg hz0]⟩)
    obtain ⟨v, hv⟩ : ∃ v, ckS L = v := ⟨_, rfl⟩
    rw [hv] at hz0 HE ⊢
    have hd : (v != 0) = true := by simpa using hz0
    clear hv hz0
    go_wp2_with fail
    go_ret2
    exact ⟨none, 0, by rw [HE.out.1, HE.out.2]; rfl, by rw [HE.out.1]; exact World.ownsRow_nil _ _ _ _, hB0⟩
  have HCK := Lib.hid hz0
  rw [hz0]
  clear hz0
  go_wp2_with fail
  go_loopw [16] (fun i wr => ∃ j : Nat, j ≤ n ∧ i = .int .i64 (j : Int) ∧ (L.find? fun p => p.1 == kd) = (L.drop j).find? (fun p => p.1 == kd) ∧ Below w.heap.size w wr) (fun i _ => n - (intOf i).toNat)
  case atStart => exact ⟨0, by omega, rfl, rfl, hB0⟩
  case round =>
    clear hB0
    obtain ⟨j, hj, rfl, hf, hB⟩ := hrel
    by_cases hlt : j < n
    · obtain ⟨ad, b, l, Ai, ci, hA, hab, hz, c0, c1, hci, hrl, hb256⟩ := (HR.out.mv hB).at_ hlt
      subst hA
      have hlb := HLB.out _ (List.mem_of_getElem? hz)
      rw [drop_get hz] at hf
      have HF := Lib.hid hf
      have HRL := Lib.hid hrl
      clear hz hf hrl
      have hB1 := hB.alloc hB.size (.cells #[.int .u8 (b : Int), .slice Ai l.length ci] 32)
      have h4 := Blk.new wr 32 #[.int .u8 (b : Int), .slice Ai l.length ci]
      have hRL := Reads.al HRL.out (.cells #[.int .u8 (b : Int), .slice Ai l.length ci] 32)
      have z0 : (wr.alloc (.cells #[.int .u8 (b : Int), .slice Ai l.length ci] 32)).cell? ⟨wr.heap.size, 0, none⟩ = some (.int .u8 (b : Int)) := (h4.cell 0).trans rfl
      have z1 : (wr.alloc (.cells #[.int .u8 (b : Int), .slice Ai l.length ci] 32)).cell? ⟨wr.heap.size, 1, none⟩ = some (.slice Ai l.length ci) := (h4.cell 1).trans rfl
      by_cases hbk : b = kd
      · subst hbk
        have HE := Lib.hid (show fnL L b = l ∧ fnE25 L b = 0 from by
          have h : (L.find? fun p => p.1 == b) = some (b, l) := by rw [HF.out, List.find?_cons_of_pos (by simp)]
          exact ⟨by rw [fnL, if_pos HCK.out, h]; rfl, by rw [fnE25, if_pos HCK.out, h]; rfl⟩)
        have d0 : ((b : Int) == (b : Int)) = true := by simp
        go_wp2_with fail
        refine (clone_any Ai l.length ci l _ hRL hlb).mono ?_
        rintro e w5 ⟨A5, c5, rfl, o5, b5⟩
        have hB5 := hB1.trans (b5.mono hB1.size)
        have o6 := own_low o5 (show w.heap.size ≤ _ from hB1.size)
        clear o5
        go_wp2_with fail
        go_ret2
        exact ⟨A5, c5, by rw [HE.out.1, HE.out.2]; rfl, by rw [HE.out.1]; exact o6, hB5⟩
      · have HN := Lib.hid (show (L.find? fun p => p.1 == kd) = (L.drop (j + 1)).find? (fun p => p.1 == kd) from by rw [HF.out, List.find?_cons_of_neg (by simp; exact hbk)])
        have d0 : ((b : Int) == (kd : Int)) = false := by simp; omega
        clear hRL
        go_wp2_with fail
        go_roundw
        case rel => exact ⟨j + 1, by omega, by go_num, HN.out, hB1⟩
        case measure => simp [intOf]; omega
    · have HE := Lib.hid (show fnL L kd = [] ∧ fnE25 L kd = 6 from by
        have h : (L.find? fun p => p.1 == kd) = none := by rw [hf, List.drop_of_length_le (by rw [HL.out]; omega)]; rfl
        exact ⟨by rw [fnL, if_pos HCK.out, h]; rfl, by rw [fnE25, if_pos HCK.out, h]; rfl⟩)
      clear hf
      go_wp2_with fail
      go_ret2
      exact ⟨none, 0, by rw [HE.out.1, HE.out.2]; rfl, by rw [HE.out.1]; exact World.ownsRow_nil _ _ _ _, hB⟩

end Go.Proofs.Yteaaiacgebikpaa
