/- What TablesNames leans on. Each states its conditions. -/
import Derived.Test.YtldaijkcmnnjpaaTab3
import Derived.Test.YtldaijkcmnnjpaaTab4
import Derived.Test.YtldaijkcmnnjpaaTab7
import Derived.Test.YtldaijkcmnnjpaaTab8
import Derived.Test.YtldaijkcmnnjpaaTab10
import Derived.Test.YtldaijkcmnnjpaaTb
import Derived.Test.YtldaijkcmnnjpaaWk
import Derived.BigQuiet
namespace Go.Proofs.Ytldaijkcmnnjpaa
open Go.RowKit Wire
set_option linter.unusedVariables false

def badT : List (List (Int × Nat)) := [[], [(1, 0)], [((-1), 0)], [(0, 0), (0, 1)], [(0, 0), (3, 1), (2, 0)], [(0, 0), (6, 1)], [(0, 0), (2, 0)]]
def fitB (p : Int × Nat) : Bool := (decide (-9223372036854775808 ≤ p.1) && decide (p.1 ≤ 9223372036854775807)) && decide (p.2 < 18446744073709551616)
theorem badT_all : badT.all (fun L => L.all fitB && decide (ckT L 6 = 8)) = true := by decide +kernel
theorem badT_get {L : List (Int × Nat)} (h : L ∈ badT) : (∀ p ∈ L, fitR p) ∧ ckT L 6 = 8 := by
  have h1 := List.all_eq_true.1 badT_all L h
  rw [Bool.and_eq_true, decide_eq_true_eq] at h1
  refine ⟨fun p hp => ?_, h1.2⟩
  have h2 := List.all_eq_true.1 h1.1 p hp
  simp [fitB] at h2
  exact ⟨by omega, by omega⟩
theorem bad_at {A : Option Addr} {n c : Nat} {L : List (Int × Nat)} (w : World) (hr : RdN w A n L) (hc : n ≤ c ∧ c ≤ 9223372036854775807) (hk : ckT L 6 = 8) : Calls Try.prog 24 #[.slice A n c, .int .i64 6, .int .i64 (-1)] w fun e w' => e = .returned (.tuple #[.int .u64 0, .int .i64 8]) ∧ Below w.heap.size w w' := by
  have h := at_any A n c L 6 (-1) w hr hc
  have e : atE L 6 (-1) = 8 := by rw [atE, if_neg (by rw [hk]; decide), hk]
  rw [show atV L 6 (-1) = 0 from by rw [atV, if_neg (by rw [e]; decide)], e] at h
  exact h
theorem bad_list {A : Option Addr} {n c : Nat} {L : List (Int × Nat)} (w : World) (hr : RdN w A n L) (hc : n ≤ c ∧ c ≤ 9223372036854775807) (hk : ckT L 6 = 8) : Calls Try.prog 25 #[.slice A n c, .int .i64 6] w fun e w' => (∃ A' c', e = .returned (.tuple #[.slice A' 0 c', .int .i64 8])) ∧ Below w.heap.size w w' := by
  have h := list_any A n c L 6 w hr hc
  rw [show lsL L 6 = [] from by rw [lsL, if_neg (by rw [hk]; decide)], hk] at h
  refine h.mono ?_
  rintro e w' ⟨A', c', rfl, _, b⟩
  exact ⟨⟨A', c', rfl⟩, b⟩
theorem bad_enc {A : Option Addr} {n c : Nat} {L : List (Int × Nat)} (w : World) (hr : RdN w A n L) (hc : n ≤ c ∧ c ≤ 9223372036854775807) (hk : ckT L 6 = 8) : Calls Try.prog 26 #[.slice A n c, .int .i64 6] w fun e w' => (∃ A' c', e = .returned (.tuple #[.slice A' 0 c', .int .i64 8])) ∧ Below w.heap.size w w' := by
  have h := encode8_any A n c L 6 w hr hc
  rw [show ecL L 6 = [] from by rw [ecL, if_neg (by rw [hk]; decide)], hk] at h
  refine h.mono ?_
  rintro e w' ⟨A', c', rfl, _, b⟩
  exact ⟨⟨A', c', rfl⟩, b⟩
theorem bad_chk {A : Option Addr} {n c : Nat} {L : List (Int × Nat)} (w : World) (hr : RdN w A n L) (hc : n ≤ c ∧ c ≤ 9223372036854775807) (hk : ckT L 6 = 8) : Calls Try.prog 27 #[.slice A n c, .int .i64 6] w fun e w' => e = .returned (.int .i64 8) ∧ Below w.heap.size w w' := by
  have h := check8_any A n c L 6 w hr hc
  rw [hk] at h
  exact h
theorem bad_chk2 {A : Option Addr} {n c : Nat} {L : List (Int × Nat)} (w : World) (hr : RdN w A n L) (hc : n ≤ c ∧ c ≤ 9223372036854775807) (hk : ckT L 6 = 8) : Calls Try.prog 27 #[.slice A n c, .int .i64 201] w fun e w' => e = .returned (.int .i64 2) ∧ Below w.heap.size w w' := by
  have h := check8_any A n c L 201 w hr hc
  rw [show ckT L 201 = 2 from by rw [ckT, if_neg (by omega)]] at h
  exact h

def Z200 : List Nat := List.replicate 200 0
def Z201 : List Nat := List.replicate 201 0
theorem mk_200 : mkL Z200 = [(0, 0)] ∧ mkE Z200 = 0 := by decide +kernel
theorem mk_201 : mkL Z201 = [] ∧ mkE Z201 = 2 := by decide +kernel
theorem rdU_zeros {w w' : World} {n : Nat} {A : Option Addr} (h : w'.ownsRow w.heap.size 55 1 (.slice A n n) n (List.replicate n (.int .u64 0))) : RdU w' A n (List.replicate n 0) := by
  have e : List.replicate n (Value.int .u64 0) = (List.replicate n 0).map vU := by rw [List.map_replicate]; rfl
  rw [e] at h
  exact ⟨own_reads h, by intro x hx; rw [List.eq_of_mem_replicate hx]; omega⟩

set_option maxRecDepth 100000 in
set_option maxHeartbeats 1600000 in
theorem decodes_yes (x0 k : Int) (A : Option Addr) (n c : Nat) (l : List UInt8) (w : World) (hr : Rb w A n l) (hc : n ≤ c ∧ c ≤ 9223372036854775807) (hk : -9223372036854775808 ≤ k ∧ k ≤ 9223372036854775807) (he : dcE l 0 k = x0) :
    Calls Try.prog 30 #[.int .i64 x0, .int .i64 k, .slice A n c] w fun e w' => e = .returned (.bool true) ∧ Below w.heap.size w w' := by
  by_cases h0 : x0 = 0
  · subst h0
    generalize hz : (dcW l 0).2.2 = z
    have hB := Below.refl w.heap.size w
    go_enter Try.func30, Try.ntmps30
    go_wp2_with fail
    have HD := decode8_any A n c l 0 k w hr hc (by omega) hk
    unfold DcP at HD
    rw [he, show dcC A n c l 0 k = cur A n c (z : Nat) from by rw [dcC, if_pos he, hz]] at HD
    unfold cur at HD
    refine HD.mono ?_
    rintro e w1 ⟨A5, c5, rfl, o5, b⟩
    clear o5 HD
    replace hB := b
    go_wp2_with fail
    go_ret
    exact ⟨rfl, (by have hs_ := hB.size; repeat (first | with_reducible exact hB | with_reducible (refine Below.setCell ?_ (by simp <;> omega) _) | with_reducible (refine Below.alloc ?_ (by first | exact hs_ | (simp <;> omega)) _) | with_reducible (refine Below.drew ?_)))⟩
  · 
    have hB := Below.refl w.heap.size w
    go_enter Try.func30, Try.ntmps30
    go_wp2_with fail
    have HD := decode8_any A n c l 0 k w hr hc (by omega) hk
    unfold DcP at HD
    rw [he, show dcC A n c l 0 k = cur none 0 0 0 from by rw [dcC, if_neg (by rw [he]; exact h0)]] at HD
    unfold cur at HD
    refine HD.mono ?_
    rintro e w1 ⟨A5, c5, rfl, o5, b⟩
    clear o5 HD
    replace hB := b
    go_wp2_with fail
    go_ret
    exact ⟨rfl, (by have hs_ := hB.size; repeat (first | with_reducible exact hB | with_reducible (refine Below.setCell ?_ (by simp <;> omega) _) | with_reducible (refine Below.alloc ?_ (by first | exact hs_ | (simp <;> omega)) _) | with_reducible (refine Below.drew ?_)))⟩

end Go.Proofs.Ytldaijkcmnnjpaa
