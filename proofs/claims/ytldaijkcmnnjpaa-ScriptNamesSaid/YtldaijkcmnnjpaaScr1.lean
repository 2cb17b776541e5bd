/- Contracts and laws of a chapter that its statement of names leans on. Each states its conditions. -/
import Derived.Test.YtldaijkcmnnjpaaWireBackLaw
namespace Go.Proofs.Ytldaijkcmnnjpaa
open Go.RowKit Wire
set_option linter.unusedVariables false
/-- A script as a value. -/
abbrev scr (A : Option Addr) (n c : Nat) (st sk hp rt : Int) : Value := .agg #[.slice A n c, .int .i64 st, .int .i64 sk, .int .i64 hp, .int .i64 rt]
def vI (x : Int) : Value := .int .i64 x
/-- A slice of ints that reads as a list. -/
abbrev RdI (w : World) (B : Nat) (A : Option Addr) (n : Nat) (l : List Int) : Prop := Reads w B 1 A n (l.map vI)
theorem Reads.lenI {w : World} {B n : Nat} {A : Option Addr} {l : List Int} (h : RdI w B A n l) : l.length = n := by simpa using h.1
theorem Reads.int {w : World} {B n : Nat} {A : Option Addr} {l : List Int} (h : RdI w B A n l) {k : Nat} (hk : k < n) : ∃ ad z, A = some ad ∧ ad.block < B ∧ l[k]? = some z ∧ w.cell? (ad.add k) = some (.int .i64 z) := by
  obtain ⟨ad, u, rfl, hb, hx, hc⟩ := h.at_ hk
  have hl : k < l.length := by rw [h.lenI]; exact hk
  rw [List.getElem?_map, List.getElem?_eq_getElem hl] at hx
  simp at hx
  exact ⟨ad, l[k], rfl, hb, List.getElem?_eq_getElem hl, by rw [hc, ← hx]; rfl⟩
def inB (n a b : Int) : Bool := decide (a ≤ n) && decide (n ≤ b)
theorem inB_true {n a b : Int} : inB n a b = true ↔ a ≤ n ∧ n ≤ b := by simp [inB]
def badP (p : Int) : Bool := !inB p 0 65535
def limB (st sk hp rt : Int) : Bool := inB st 1 5000 && (inB sk 0 4096 && (inB hp 0 16384 && inB rt 1 16))
def scB (st sk hp rt : Int) (l : List Int) : Bool := limB st sk hp rt && (decide (l.length ≤ 2000) && !l.any badP)
def scE (st sk hp rt : Int) (l : List Int) : Int := if scB st sk hp rt l then 0 else 8
theorem any_step {l : List Int} {j : Nat} {z : Int} (h : l[j]? = some z) : (l.take (j + 1)).any badP = ((l.take j).any badP || badP z) := by
  rw [take_succ_of h, List.any_append]; simp
theorem any_of {l : List Int} {j : Nat} {z : Int} (h : l[j]? = some z) (hb : badP z = true) : l.any badP = true := by
  rw [List.any_eq_true]; exact ⟨z, List.mem_of_getElem? h, hb⟩
set_option maxHeartbeats 1600000 in
theorem within_any (n a b : Int) (w : World) :
    Calls Try.prog 58 #[.int .i64 n, .int .i64 a, .int .i64 b] w fun e w' => e = .returned (.bool (inB n a b)) ∧ w = w' := by
  by_cases h : a ≤ n
  · have d1 : decide (a ≤ n) = true := by simpa using h
    have HI := Lib.hid (show inB n a b = decide (n ≤ b) from by rw [inB, d1]; rfl)
    go_enter Try.func58, Try.ntmps58
    go_wp2_with fail
    go_ret
    exact ⟨by rw [HI.out]; rfl, rfl⟩
  · have d1 : decide (a ≤ n) = false := by simpa using h
    have HI := Lib.hid (show inB n a b = false from by rw [inB, d1]; rfl)
    go_enter Try.func58, Try.ntmps58
    go_wp2_with fail
    go_ret
    exact ⟨by rw [HI.out]; rfl, rfl⟩
set_option maxHeartbeats 1600000 in
theorem bad_any (p : Int) (w : World) :
    Calls Try.prog 61 #[.int .i64 p] w fun e w' => e = .returned (.bool (badP p)) ∧ w = w' := by
  have HP := Lib.hid (show badP p = !inB p 0 65535 from rfl)
  rw [HP.out]
  go_enter Try.func61, Try.ntmps61
  go_wp2_with (go_at_call 58; refine (within_any _ _ _ _).mono ?_; rintro e w2 ⟨rfl, rfl⟩)
  go_ret
  exact ⟨rfl, rfl⟩
set_option maxRecDepth 100000 in
set_option maxHeartbeats 1600000 in
theorem index_any (A : Option Addr) (n c : Nat) (l : List Int) (w : World) (hr : RdI w w.heap.size A n l) (hn : n ≤ 9223372036854775807) :
    Calls Try.prog 99 #[.slice A n c, .func (.func 61) #[] #[]] w fun e w' => (∃ i : Int, e = .returned (.int .i64 i) ∧ decide (0 ≤ i) = l.any badP) ∧ w = w' := by
  have HL := Lib.hid hr.lenI
  have HR := Lib.hid hr
  clear hr
  go_enter Try.func99, Try.ntmps99
  go_wp2_with fail
  go_loop [8] (fun i => ∃ j : Nat, j ≤ n ∧ i = .int .i64 (j : Int) ∧ (l.take j).any badP = false) (fun i => n - (intOf i).toNat)
  case atStart => exact ⟨0, by omega, rfl, by simp⟩
  case round =>
    obtain ⟨j, hj, rfl, ha⟩ := hrel
    have HA := Lib.hid ha
    clear ha
    by_cases hlt : j < n
    · obtain ⟨ad, z, rfl, hb, hz, hc⟩ := HR.out.int hlt
      have HS := Lib.hid (any_step hz)
      have HZ := Lib.hid hz
      clear hz
      cases hbz : badP z
      · have HB := Lib.hid hbz
        clear hbz
        go_wp2_with (go_at_call 61; refine (bad_any _ _).mono ?_; rintro e w2 ⟨rfl, rfl⟩; rw [HB.out])
        go_round
        case rel => exact ⟨j + 1, by omega, by go_num, by rw [HS.out, HA.out, HB.out]; rfl⟩
        case measure => simp [intOf]; omega
      · have HB := Lib.hid hbz
        clear hbz
        go_wp2_with (go_at_call 61; refine (bad_any _ _).mono ?_; rintro e w2 ⟨rfl, rfl⟩; rw [HB.out])
        go_ret
        exact ⟨⟨_, rfl, by rw [any_of HZ.out HB.out]; simp; try omega⟩, rfl⟩
    · have HA2 := Lib.hid (show l.any badP = false from by rw [← HA.out, List.take_of_length_le (by rw [HL.out]; omega)])
      clear HA
      go_wp2_with fail
      go_ret
      exact ⟨⟨_, rfl, by rw [HA2.out]; rfl⟩, rfl⟩
set_option maxRecDepth 100000 in
set_option maxHeartbeats 1600000 in
theorem contains_any (A : Option Addr) (n c : Nat) (l : List Int) (w : World) (hr : RdI w w.heap.size A n l) (hn : n ≤ 9223372036854775807) :
    Calls Try.prog 60 #[.slice A n c, .func (.func 61) #[] #[]] w fun e w' => e = .returned (.bool (l.any badP)) ∧ w = w' := by
  have HI := Lib.hid (index_any A n c l w hr hn)
  clear hr
  go_enter Try.func60, Try.ntmps60
  go_wp2_with fail
  refine HI.out.mono ?_
  rintro e w2 ⟨⟨i, rfl, hi⟩, rfl⟩
  have HQ := Lib.hid hi
  clear hi
  go_wp2_with fail
  go_ret
  exact ⟨by rw [← HQ.out]; rfl, rfl⟩
set_option maxRecDepth 100000 in
set_option maxHeartbeats 3200000 in
theorem check11_any (A : Option Addr) (n c : Nat) (l : List Int) (st sk hp rt : Int) (w : World) (hr : RdI w w.heap.size A n l) (hn : n ≤ 9223372036854775807) :
    Calls Try.prog 19 #[scr A n c st sk hp rt] w fun e w' => e = .returned (.int .i64 (scE st sk hp rt l)) ∧ Below w.heap.size w w' := by
  have HL := Lib.hid hr.lenI
  have hB1 := (Below.refl w.heap.size w).alloc (Nat.le_refl _) (.cells #[.slice A n c, .int .i64 st, .int .i64 sk, .int .i64 hp, .int .i64 rt] 44)
  have hk1 := Blk.new w 44 #[.slice A n c, .int .i64 st, .int .i64 sk, .int .i64 hp, .int .i64 rt]
  have hB2 := hB1.alloc hB1.size (.cells #[.int .i64 st, .int .i64 sk, .int .i64 hp, .int .i64 rt] 39)
  have hk2 := hk1.alloc (.cells #[.int .i64 st, .int .i64 sk, .int .i64 hp, .int .i64 rt] 39)
  have hl2 := Blk.new (w.alloc (.cells #[.slice A n c, .int .i64 st, .int .i64 sk, .int .i64 hp, .int .i64 rt] 44)) 39 #[.int .i64 st, .int .i64 sk, .int .i64 hp, .int .i64 rt]
  rw [alloc_size] at hl2
  have R2 := hr.mv hB2
  clear hr
  cases h0 : inB st 1 5000
  · have HE := Lib.hid (show scE st sk hp rt l = 8 from by simp [scE, scB, limB, h0])
    go_enter Try.func19, Try.ntmps19
    go_wp2_with (go_at_call 58; refine (within_any _ _ _ _).mono ?_; rintro e wq ⟨rfl, rfl⟩)
    go_ret
    exact ⟨by rw [HE.out]; rfl, hB2⟩
  cases h1 : inB sk 0 4096
  · have HE := Lib.hid (show scE st sk hp rt l = 8 from by simp [scE, scB, limB, h0, h1])
    go_enter Try.func19, Try.ntmps19
    go_wp2_with (go_at_call 58; refine (within_any _ _ _ _).mono ?_; rintro e wq ⟨rfl, rfl⟩)
    go_ret
    exact ⟨by rw [HE.out]; rfl, hB2⟩
  cases h2 : inB hp 0 16384
  · have HE := Lib.hid (show scE st sk hp rt l = 8 from by simp [scE, scB, limB, h0, h1, h2])
    go_enter Try.func19, Try.ntmps19
    go_wp2_with (go_at_call 58; refine (within_any _ _ _ _).mono ?_; rintro e wq ⟨rfl, rfl⟩)
    go_ret
    exact ⟨by rw [HE.out]; rfl, hB2⟩
  cases h3 : inB rt 1 16
  · have HE := Lib.hid (show scE st sk hp rt l = 8 from by simp [scE, scB, limB, h0, h1, h2, h3])
    go_enter Try.func19, Try.ntmps19
    go_wp2_with (go_at_call 58; refine (within_any _ _ _ _).mono ?_; rintro e wq ⟨rfl, rfl⟩)
    go_ret
    exact ⟨by rw [HE.out]; rfl, hB2⟩
  by_cases h4 : n ≤ 2000
  rotate_left
  · have d4 : decide ((n : Int) ≤ 2000) = false := by simp; omega
    have HE := Lib.hid (show scE st sk hp rt l = 8 from by simp [scE, scB, limB, h0, h1, h2, h3, HL.out]; omega)
    go_enter Try.func19, Try.ntmps19
    go_wp2_with (go_at_call 58; refine (within_any _ _ _ _).mono ?_; rintro e wq ⟨rfl, rfl⟩)
    go_ret
    exact ⟨by rw [HE.out]; rfl, hB2⟩
  have d4 : decide ((n : Int) ≤ 2000) = true := by simp; omega
  cases h5 : l.any badP
  · have HE := Lib.hid (show scE st sk hp rt l = 0 from by simp [scE, scB, limB, h0, h1, h2, h3, HL.out, h5]; omega)
    go_enter Try.func19, Try.ntmps19
    go_wp2_with (first | (go_at_call 58; refine (within_any _ _ _ _).mono ?_; rintro e wq ⟨rfl, rfl⟩) | (go_at_call 60; refine (contains_any A n c l _ R2 (by omega)).mono ?_; rintro e wq ⟨rfl, rfl⟩))
    go_ret
    exact ⟨by rw [HE.out]; rfl, hB2⟩
  · have HE := Lib.hid (show scE st sk hp rt l = 8 from by simp [scE, scB, limB, h0, h1, h2, h3, HL.out, h5])
    go_enter Try.func19, Try.ntmps19
    go_wp2_with (first | (go_at_call 58; refine (within_any _ _ _ _).mono ?_; rintro e wq ⟨rfl, rfl⟩) | (go_at_call 60; refine (contains_any A n c l _ R2 (by omega)).mono ?_; rintro e wq ⟨rfl, rfl⟩))
    go_ret
    exact ⟨by rw [HE.out]; rfl, hB2⟩
/-- What Pick answers. -/
def pkE (p r : Int) : Int := if inB p 0 65535 && inB r 0 16 then (if r = 0 then 6 else 0) else 2
def pkN (p r : Int) : Int := if pkE p r = 0 then p % r else 0
set_option maxRecDepth 100000 in
set_option maxHeartbeats 1600000 in
theorem pick_any (p r : Int) (w : World) :
    Calls Try.prog 21 #[.int .i64 p, .int .i64 r] w fun e w' => e = .returned (.tuple #[.int .i64 (pkN p r), .int .i64 (pkE p r)]) ∧ w = w' := by
  cases g0 : inB p 0 65535
  · have hh : (inB p 0 65535 && inB r 0 16) = false := by rw [g0]; rfl
    have HV := Lib.hid (show pkE p r = 2 ∧ pkN p r = 0 from by constructor <;> simp [pkN, pkE, hh])
    go_enter Try.func21, Try.ntmps21
    go_wp2_with (go_at_call 58; refine (within_any _ _ _ _).mono ?_; rintro e wq ⟨rfl, rfl⟩)
    go_ret2
    exact ⟨by rw [HV.out.1, HV.out.2]; rfl, rfl⟩
  cases g1 : inB r 0 16
  · have hh : (inB p 0 65535 && inB r 0 16) = false := by rw [g0, g1]; rfl
    have HV := Lib.hid (show pkE p r = 2 ∧ pkN p r = 0 from by constructor <;> simp [pkN, pkE, hh])
    go_enter Try.func21, Try.ntmps21
    go_wp2_with (go_at_call 58; refine (within_any _ _ _ _).mono ?_; rintro e wq ⟨rfl, rfl⟩)
    go_ret2
    exact ⟨by rw [HV.out.1, HV.out.2]; rfl, rfl⟩
  have hh : (inB p 0 65535 && inB r 0 16) = true := by rw [g0, g1]; rfl
  obtain ⟨a1, a2⟩ := inB_true.1 g0
  obtain ⟨b1, b2⟩ := inB_true.1 g1
  by_cases hr0 : r = 0
  · have he : pkE p r = 6 := by unfold pkE; rw [if_pos hh, if_pos hr0]
    have HV := Lib.hid (show pkE p r = 6 ∧ pkN p r = 0 from ⟨he, by unfold pkN; rw [he]; rfl⟩)
    clear he
    subst hr0
    go_enter Try.func21, Try.ntmps21
    go_wp2_with (go_at_call 58; refine (within_any _ _ _ _).mono ?_; rintro e wq ⟨rfl, rfl⟩)
    go_ret2
    exact ⟨by rw [HV.out.1, HV.out.2]; rfl, rfl⟩
  · have HV := Lib.hid (show pkE p r = 0 ∧ pkN p r = p % r from by constructor <;> simp [pkN, pkE, hh, hr0])
    have dr : (r == 0) = false := by rw [beq_eq_false_iff_ne]; exact hr0
    have hm := Int.emod_lt_of_pos p (show 0 < r by omega)
    have hm0 := Int.emod_nonneg p hr0
    go_enter Try.func21, Try.ntmps21
    go_wp2_with (go_at_call 58; refine (within_any _ _ _ _).mono ?_; rintro e wq ⟨rfl, rfl⟩)
    go_ret2
    exact ⟨by rw [HV.out.1, HV.out.2]; rfl, rfl⟩

end Go.Proofs.Ytldaijkcmnnjpaa
