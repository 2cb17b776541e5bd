/- Lists of sections, and the contracts of their checks. Each states its conditions. -/
import Derived.Test.YteaaiacgebikpaaCrcNext
import Derived.Test.YteaaiacgebikpaaWireFix
import Derived.Test.YteaaiacgebikpaaRet3
import Derived.Test.YteaaiacgebikpaaWk
import Derived.BigQuiet
namespace Go.Proofs.Yteaaiacgebikpaa
open Go.RowKit Wire Crc
set_option linter.unusedVariables false

def vI (x : Nat) : Value := .int .i64 (x : Int)
/-- A slice of ints that reads as a list. -/
def RdZ (w : World) (A : Option Addr) (n : Nat) (l : List Nat) : Prop := Reads w w.heap.size 1 A n (l.map vI) ∧ ∀ x ∈ l, x ≤ 9223372036854775807
theorem RdZ.mv {w w' : World} {A : Option Addr} {n : Nat} {l : List Nat} (h : RdZ w A n l) (hb : Below w.heap.size w w') : RdZ w' A n l := ⟨h.1.mv hb, h.2⟩
theorem RdZ.len {w : World} {A : Option Addr} {n : Nat} {l : List Nat} (h : RdZ w A n l) : l.length = n := by simpa using h.1.1
theorem RdZ.at_ {w : World} {A : Option Addr} {n : Nat} {l : List Nat} (h : RdZ w A n l) {k : Nat} (hk : k < n) :
    ∃ ad z, A = some ad ∧ ad.block < w.heap.size ∧ l[k]? = some z ∧ w.cell? (ad.add k) = some (.int .i64 (z : Int)) ∧ z ≤ 9223372036854775807 := by
  have hl : k < l.length := by rw [h.len]; exact hk
  obtain ⟨ad, u, rfl, hb, hx, hc⟩ := h.1.at_ hk
  rw [List.getElem?_map, List.getElem?_eq_getElem hl] at hx
  simp at hx
  exact ⟨ad, l[k], rfl, hb, List.getElem?_eq_getElem hl, by rw [hc, ← hx]; rfl, h.2 _ (List.getElem_mem hl)⟩
/-- A slice of sections that reads as a list of kinds and bytes. -/
def RdS (w : World) (A : Option Addr) (n : Nat) (L : List (Nat × List UInt8)) : Prop :=
  L.length = n ∧ ∃ vs : List (List Value), vs.length = n ∧ (∀ u ∈ vs, u.length = 2) ∧ Reads w w.heap.size 2 A n vs.flatten ∧
    ∀ (k : Nat) (p : Nat × List UInt8), L[k]? = some p → ∃ Ai ci, vs[k]? = some [.int .u8 (p.1 : Int), .slice Ai p.2.length ci] ∧ (p.2.length ≤ ci ∧ ci ≤ 9223372036854775807) ∧ Rb w Ai p.2.length p.2 ∧ p.1 < 256
theorem RdS.mv {w w' : World} {A : Option Addr} {n : Nat} {L : List (Nat × List UInt8)} (h : RdS w A n L) (hb : Below w.heap.size w w') : RdS w' A n L := by
  obtain ⟨h1, vs, h2, h3, h4, h5⟩ := h
  refine ⟨h1, vs, h2, h3, h4.mv hb, fun k p hp => ?_⟩
  obtain ⟨Ai, ci, g1, g2, g3, g4⟩ := h5 k p hp
  exact ⟨Ai, ci, g1, g2, g3.mv hb, g4⟩
theorem flat2_get {vs : List (List Value)} (h : ∀ u ∈ vs, u.length = 2) {k : Nat} {a b : Value} (hk : vs[k]? = some [a, b]) : vs.flatten[k * 2]? = some a ∧ vs.flatten[k * 2 + 1]? = some b := by
  induction vs generalizing k with
  | nil => simp at hk
  | cons u vs ih =>
    have hu := h u (by simp)
    rcases k with _ | k
    · simp at hk
      subst hk
      simp
    · have := ih (fun x hx => h x (by simp [hx])) (k := k) (by simpa using hk)
      rw [List.flatten_cons]
      have e1 : (k + 1) * 2 = u.length + k * 2 := by omega
      have e2 : (k + 1) * 2 + 1 = u.length + (k * 2 + 1) := by omega
      exact ⟨by rw [e1, List.getElem?_append_right (by omega)]; simpa using this.1, by rw [e2, List.getElem?_append_right (by omega)]; simpa using this.2⟩
theorem at_off2 (ad : Addr) (m : Nat) : ({ block := (ad.add m).block, off := (ad.add m).off + 1 } : Addr) = ad.add (m + 1) := by simp [Addr.add]; split <;> simp <;> omega
theorem RdS.at_ {w : World} {A : Option Addr} {n : Nat} {L : List (Nat × List UInt8)} (h : RdS w A n L) {k : Nat} (hk : k < n) :
    ∃ ad b l Ai ci, A = some ad ∧ ad.block < w.heap.size ∧ L[k]? = some (b, l) ∧ w.cell? (ad.add (k * 2)) = some (.int .u8 (b : Int)) ∧ w.cell? { block := (ad.add (k * 2)).block, off := (ad.add (k * 2)).off + 1 } = some (.slice Ai l.length ci) ∧
      (l.length ≤ ci ∧ ci ≤ 9223372036854775807) ∧ Rb w Ai l.length l ∧ b < 256 := by
  obtain ⟨h1, vs, h2, h3, h4, h5⟩ := h
  have hl : k < L.length := by omega
  obtain ⟨Ai, ci, g1, g2, g3, g4⟩ := h5 k L[k] (List.getElem?_eq_getElem hl)
  obtain ⟨ad, rfl, hb, hc⟩ := h4.2 (by omega)
  obtain ⟨f1, f2⟩ := flat2_get h3 g1
  exact ⟨ad, L[k].1, L[k].2, Ai, ci, rfl, hb, List.getElem?_eq_getElem hl, hc _ _ f1, by rw [at_off2]; exact hc _ _ f2, g2, g3, g4⟩
theorem drop_get {α : Type} {l : List α} {j : Nat} {a : α} (h : l[j]? = some a) : l.drop j = a :: l.drop (j + 1) := by
  obtain ⟨hl, rfl⟩ := List.getElem?_eq_some_iff.mp h
  exact List.drop_eq_getElem_cons hl
/-- Whether kinds are valid, behind a last one. -/
def ordB (last : Nat) : List (Nat × List UInt8) → Bool
  | [] => true
  | p :: r => decide (last < p.1 ∧ p.1 ≤ 7) && ordB p.1 r
theorem ordB_len {L : List (Nat × List UInt8)} : ∀ {last : Nat}, last ≤ 7 → ordB last L = true → last + L.length ≤ 7 := by
  induction L with
  | nil => intro last h _; simpa using h
  | cons p r ih =>
    intro last h hb
    simp only [ordB, Bool.and_eq_true, decide_eq_true_eq] at hb
    have := ih hb.1.2 hb.2
    simp only [List.length_cons]
    omega
/-- The length of a container, added up. -/
def lenR : Nat → List Nat → Option Nat
  | n, [] => some n
  | n, s :: r => if 200000 < n + s then none else lenR (n + s) r
def lnR (l : List Nat) : Option Nat := lenR (10 + 13 * l.length) l
def lnV (l : List Nat) : Int := (lnR l).elim 0 (fun m => (m : Int))
def lnW (l : List Nat) : Int := (lnR l).elim (-1) (fun m => (m : Int))
def lnB (l : List Nat) : Bool := (lnR l).isSome
def ckS (L : List (Nat × List UInt8)) : Int := if ordB 0 L then (if (lnR (L.map (·.2.length))).isSome then 0 else 4) else 8

set_option maxRecDepth 100000 in
set_option maxHeartbeats 1600000 in
theorem length25_any (A : Option Addr) (n c : Nat) (l : List Nat) (w : World) (hr : RdZ w A n l) (hn : n ≤ 1000000) :
    Calls Try.prog 40 #[.slice A n c] w fun e w' => e = .returned (.tuple #[.int .i64 (lnV l), .bool (lnB l)]) ∧ w = w' := by
  have HL := Lib.hid hr.len
  have HLN := Lib.hid (show lnR l = lenR (10 + 13 * n) (l.drop 0) from by rw [lnR, hr.len]; rfl)
  obtain ⟨n0, hn0⟩ : ∃ n0, 10 + 13 * n = n0 := ⟨_, rfl⟩
  rw [hn0] at HLN
  have e0 : IntKind.i64.wrap (13 * (n : Int)) = ((13 * n : Nat) : Int) := by rw [IntKind.wrap_i64]; omega
  go_enter Try.func40, Try.ntmps40
  go_wp2_with fail
  go_loopw [4, 14] (fun s i wr => ∃ j m : Nat, j ≤ n ∧ i = .int .i64 (j : Int) ∧ s = .int .i64 (m : Int) ∧ lnR l = lenR m (l.drop j) ∧ m ≤ 13000010 ∧ w = wr) (fun _ i _ => n - (intOf i).toNat)
  case atStart => exact ⟨0, n0, by omega, rfl, by go_num, HLN.out, by omega, rfl⟩
  case round =>
    obtain ⟨j, m, hj, rfl, rfl, hl, hm, rfl⟩ := hrel
    by_cases hlt : j < n
    · obtain ⟨ad, z, hA, hab, hz, c0, hz63⟩ := hr.at_ hlt
      subst hA
      rw [drop_get hz] at hl
      have HH := Lib.hid hl
      clear hz hl
      by_cases hb : 200000 < m + z
      · have HE := Lib.hid (show lnR l = none from by rw [HH.out, lenR, if_pos hb])
        have d0 : decide ((z : Int) > 200000 - (m : Int)) = true := by simp; omega
        have d1 : (200000 : Int) - (m : Int) < (z : Int) := by omega
        go_wp2_with fail
        go_ret2
        exact ⟨by unfold lnV lnB; rw [HE.out]; rfl, rfl⟩
      · have HE := Lib.hid (show lnR l = lenR (m + z) (l.drop (j + 1)) from by rw [HH.out, lenR, if_neg hb])
        have d0 : decide ((z : Int) > 200000 - (m : Int)) = false := by simp; omega
        have d1 : ¬ (200000 : Int) - (m : Int) < (z : Int) := by omega
        go_wp2_with fail
        go_roundw
        case rel => exact ⟨j + 1, m + z, by omega, by go_num, by go_num, HE.out, by omega, by trivial⟩
        case measure => simp [intOf]; omega
    · obtain rfl : j = n := by omega
      have HE := Lib.hid (show lnR l = some m from by rw [hl, List.drop_of_length_le (by rw [HL.out]; omega)]; rfl)
      clear hl
      go_wp2_with fail
      go_ret2
      exact ⟨by unfold lnV lnB; rw [HE.out]; rfl, rfl⟩

set_option maxRecDepth 100000 in
set_option maxHeartbeats 1600000 in
theorem rlength25_any (A : Option Addr) (n c : Nat) (l : List Nat) (w : World) (hr : RdZ w A n l) (hn : n ≤ 1000000) :
    Calls Try.prog 37 #[.slice A n c] w fun e w' => e = .returned (.int .i64 (lnW l)) ∧ w = w' := by
  have HL := Lib.hid hr.len
  have HLN := Lib.hid (show lnR l = lenR (10 + 13 * n) (l.drop 0) from by rw [lnR, hr.len]; rfl)
  obtain ⟨n0, hn0⟩ : ∃ n0, 10 + 13 * n = n0 := ⟨_, rfl⟩
  rw [hn0] at HLN
  have e0 : IntKind.i64.wrap (13 * (n : Int)) = ((13 * n : Nat) : Int) := by rw [IntKind.wrap_i64]; omega
  go_enter Try.func37, Try.ntmps37
  go_wp2_with fail
  go_loopw [3, 4] (fun s i wr => ∃ j m : Nat, j ≤ n ∧ i = .int .i64 (j : Int) ∧ s = .int .i64 (m : Int) ∧ lnR l = lenR m (l.drop j) ∧ m ≤ 13000010 ∧ w = wr) (fun _ i _ => n - (intOf i).toNat)
  case atStart => exact ⟨0, n0, by omega, rfl, by go_num, HLN.out, by omega, rfl⟩
  case round =>
    obtain ⟨j, m, hj, rfl, rfl, hl, hm, rfl⟩ := hrel
    by_cases hlt : j < n
    · obtain ⟨ad, z, hA, hab, hz, c0, hz63⟩ := hr.at_ hlt
      subst hA
      rw [drop_get hz] at hl
      have HH := Lib.hid hl
      clear hz hl
      by_cases hb : 200000 < m + z
      · have HE := Lib.hid (show lnR l = none from by rw [HH.out, lenR, if_pos hb])
        have d0 : decide ((z : Int) > 200000 - (m : Int)) = true := by simp; omega
        have d1 : (200000 : Int) - (m : Int) < (z : Int) := by omega
        go_wp2_with fail
        go_ret
        exact ⟨by unfold lnW; rw [HE.out]; rfl, rfl⟩
      · have HE := Lib.hid (show lnR l = lenR (m + z) (l.drop (j + 1)) from by rw [HH.out, lenR, if_neg hb])
        have d0 : decide ((z : Int) > 200000 - (m : Int)) = false := by simp; omega
        have d1 : ¬ (200000 : Int) - (m : Int) < (z : Int) := by omega
        go_wp2_with fail
        go_roundw
        case rel => exact ⟨j + 1, m + z, by omega, by go_num, by go_num, HE.out, by omega, by trivial⟩
        case measure => simp [intOf]; omega
    · obtain rfl : j = n := by omega
      have HE := Lib.hid (show lnR l = some m from by rw [hl, List.drop_of_length_le (by rw [HL.out]; omega)]; rfl)
      clear hl
      go_wp2_with fail
      go_ret
      exact ⟨by unfold lnW; rw [HE.out]; rfl, rfl⟩

set_option maxRecDepth 100000 in
set_option maxHeartbeats 1600000 in
theorem ordered25_any (A : Option Addr) (n c : Nat) (L : List (Nat × List UInt8)) (w : World) (hr : RdS w A n L) (hn : n ≤ 1000000) :
    Calls Try.prog 32 #[.slice A n c] w fun e w' => e = .returned (.bool (ordB 0 L)) ∧ Below w.heap.size w w' := by
  have HL := Lib.hid hr.1
  go_enter Try.func32, Try.ntmps32
  go_wp2_with fail
  go_loopw [3, 8] (fun s i wr => ∃ j m : Nat, j ≤ n ∧ i = .int .i64 (j : Int) ∧ s = .int .u8 (m : Int) ∧ ordB 0 L = ordB m (L.drop j) ∧ m < 256 ∧ Below w.heap.size w wr) (fun _ i _ => n - (intOf i).toNat)
  case atStart => exact ⟨0, 0, by omega, rfl, rfl, rfl, by omega, Below.refl _ _⟩
  case round =>
    obtain ⟨j, m, hj, rfl, rfl, hl, hm, hB⟩ := hrel
    by_cases hlt : j < n
    · obtain ⟨ad, b, l, Ai, ci, hA, hab, hz, c0, c1, hci, hrl, hb256⟩ := (hr.mv hB).at_ hlt
      subst hA
      rw [drop_get hz] at hl
      have HH := Lib.hid hl
      clear hz hl hrl
      have hB1 := hB.alloc hB.size (.cells #[.int .u8 (b : Int), .slice Ai l.length ci] 32)
      have h4 := Blk.new wr 32 #[.int .u8 (b : Int), .slice Ai l.length ci]
      have z0 : (wr.alloc (.cells #[.int .u8 (b : Int), .slice Ai l.length ci] 32)).cell? ⟨wr.heap.size, 0, none⟩ = some (.int .u8 (b : Int)) := (h4.cell 0).trans rfl
      have z1 : (wr.alloc (.cells #[.int .u8 (b : Int), .slice Ai l.length ci] 32)).cell? ⟨wr.heap.size, 1, none⟩ = some (.slice Ai l.length ci) := (h4.cell 1).trans rfl
      by_cases hb : m < b ∧ b ≤ 7
      · have HE := Lib.hid (show ordB 0 L = ordB b (L.drop (j + 1)) from by rw [HH.out, ordB, decide_eq_true hb]; rfl)
        have d1 : ¬ (b : Int) ≤ (m : Int) := by omega
        have d2 : ¬ (7 : Int) < (b : Int) := by omega
        go_wp2_with fail
        go_roundw
        case rel => exact ⟨j + 1, b, by omega, by go_num, rfl, HE.out, hb256, hB1⟩
        case measure => simp [intOf]; omega
      · have HE := Lib.hid (show ordB 0 L = false from by rw [HH.out, ordB, decide_eq_false hb]; rfl)
        by_cases d1 : b ≤ m
        · have d1' : (b : Int) ≤ (m : Int) := by omega
          go_wp2_with fail
          go_ret
          exact ⟨by rw [HE.out]; rfl, hB1⟩
        · have d1' : ¬ (b : Int) ≤ (m : Int) := by omega
          have d2 : (7 : Int) < (b : Int) := by omega
          go_wp2_with fail
          go_ret
          exact ⟨by rw [HE.out]; rfl, hB1⟩
    · have HE := Lib.hid (show ordB 0 L = true from by rw [hl, List.drop_of_length_le (by rw [HL.out]; omega)]; rfl)
      clear hl
      go_wp2_with fail
      go_ret
      exact ⟨by rw [HE.out]; rfl, hB⟩

end Go.Proofs.Yteaaiacgebikpaa
