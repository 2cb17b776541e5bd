/- Contracts and laws of another chapter that this one leans on. Each states its conditions. -/
import Derived.Test.YtkhdeoihjnpnaaaChecked
import Derived.Test.YtkhdeoihjnpnaaaMem
import Derived.Test.YtkhdeoihjnpnaaaSlice
import Derived.Test.YtkhdeoihjnpnaaaArr
import Derived.Test.YtkhdeoihjnpnaaaRegion
import Derived.Test.YtkhdeoihjnpnaaaRet
import Derived.Test.YtkhdeoihjnpnaaaRbb
import Derived.Test.YtkhdeoihjnpnaaaWireLeft
namespace Go.Proofs.Ytkhdeoihjnpnaaa
open Go.RowKit Wire
set_option linter.unusedVariables false

theorem uvN_lt (l : List UInt8) (a : Int) (most : Nat) : uvN l a most < 18446744073709551616 := by
  unfold uvN
  split
  · rename_i h
    exact (uvR_le (uv_zero h).2.1).1
  · omega
theorem un_even {v : Nat} (hv : v < 18446744073709551616) (h : v % 2 = 0) : bits .xor .i64 ((v : Int) / 2) (-((v : Int) % 2)) = hlf v := by
  have e1 : (v : Int) / 2 = ((v / 2 : Nat) : Int) := by omega
  have e2 : -((v : Int) % 2) = 0 := by omega
  rw [e1, e2]
  have h2 : (BitVec.ofInt 64 ((v / 2 : Nat) : Int)).toNat = v / 2 := by
    rw [BitVec.ofInt_natCast, BitVec.toNat_ofNat]; exact Nat.mod_eq_of_lt (by omega)
  show IntKind.i64.wrap ((BitVec.ofInt 64 ((v / 2 : Nat) : Int) ^^^ BitVec.ofInt 64 0).toNat : Int) = _
  rw [BitVec.toNat_xor, h2, show (BitVec.ofInt 64 0).toNat = 0 from by decide, Nat.xor_zero, IntKind.wrap_i64]
  simp only [hlf, if_pos h]
  omega
theorem un_odd {v : Nat} (hv : v < 18446744073709551616) (h : ¬ v % 2 = 0) : bits .xor .i64 ((v : Int) / 2) (-((v : Int) % 2)) = hlf v := by
  have e1 : (v : Int) / 2 = ((v / 2 : Nat) : Int) := by omega
  have e2 : -((v : Int) % 2) = -1 := by omega
  rw [e1, e2]
  have h1 : (BitVec.ofInt 64 (-1)).toNat = 2 ^ 64 - 1 := by decide
  have h2 : (BitVec.ofInt 64 ((v / 2 : Nat) : Int)).toNat = v / 2 := by
    rw [BitVec.ofInt_natCast, BitVec.toNat_ofNat]; exact Nat.mod_eq_of_lt (by omega)
  show IntKind.i64.wrap ((BitVec.ofInt 64 ((v / 2 : Nat) : Int) ^^^ BitVec.ofInt 64 (-1)).toNat : Int) = _
  rw [BitVec.toNat_xor, h1, h2, Nat.xor_comm, Lib.xor_ones64 _ (by omega), IntKind.wrap_i64]
  simp only [hlf, if_neg h]
  omega
theorem un_all (v : Nat) (hv : v < 18446744073709551616) : bits .xor .i64 ((v : Int) / 2) (-((v : Int) % 2)) = hlf v := by
  by_cases h : v % 2 = 0
  · exact un_even hv h
  · exact un_odd hv h
set_option maxRecDepth 100000 in
set_option maxHeartbeats 1600000 in
theorem unsigned_any (A : Option Addr) (n c : Nat) (l : List UInt8) (a : Int) (w : World) (hr : Rb w A n l) (hn : n ≤ 9223372036854775807) (ha : -9223372036854775808 ≤ a ∧ a ≤ 9223372036854775807) :
    Calls Try.prog 28 #[cur A n c a] w fun e w' => e = .returned (.tuple #[uvC A n c l a 18446744073709551615, .int .i64 (hlf (uvN l a 18446744073709551615)), .int .i64 (uvE l a 18446744073709551615)]) ∧ Below w.heap.size w w' := by
  have hB0 := ((Below.refl w.heap.size w).alloc (Nat.le_refl _) (.cells #[.slice A n c, .int .i64 a] 39)).alloc (by simp) (.cells #[.slice none 0 0, .int .i64 0] 39)
  have hz0 := Blk.new (w.alloc (.cells #[.slice A n c, .int .i64 a] 39)) 39 #[.slice none 0 0, .int .i64 0]
  rw [alloc_size] at hz0
  have HU := Lib.hid (fun W (h : Rb W A n l) => unvary_any A n c l a 18446744073709551615 W h hn (by omega) ha)
  have HR := Lib.hid (hr.mv hB0)
  have HX := un_all (uvN l a 18446744073709551615) (uvN_lt _ _ _)
  have HW := Lib.u64_and1 (uvN l a 18446744073709551615 : Nat) (by omega) (by have := uvN_lt l a 18446744073709551615; omega)
  have hv := uvN_lt l a 18446744073709551615
  clear hr
  obtain ⟨u0, a0, c0, i0, hu⟩ : ∃ u0 a0 c0 i0, uvC A n c l a 18446744073709551615 = cur u0 a0 c0 i0 := by unfold uvC; split <;> exact ⟨_, _, _, _, rfl⟩
  generalize uvC A n c l a 18446744073709551615 = uu at *
  subst hu
  generalize uvN l a 18446744073709551615 = v at *
  generalize uvE l a 18446744073709551615 = e0 at *
  go_enter Try.func28, Try.ntmps28
  go_wp2_with fail
  refine (HU.out _ HR.out).mono ?_
  rintro e w1 ⟨rfl, hb1⟩
  have hz1 := (hz0.below hb1 hz0.lt).alloc (.cells #[.slice u0 a0 c0, .int .i64 i0] 39)
  have hB1 := hB0.trans (hb1.mono hB0.size)
  have hB2 := hB1.alloc hB1.size (.cells #[.slice u0 a0 c0, .int .i64 i0] 39)
  have hc1 : (w1.alloc (.cells #[.slice u0 a0 c0, .int .i64 i0] 39)).cell? ⟨w.heap.size + 1, 0, none⟩ = some (.slice none 0 0) := (hz1.cell 0).trans rfl
  have hc2 : (w1.alloc (.cells #[.slice u0 a0 c0, .int .i64 i0] 39)).cell? ⟨w.heap.size + 1, 1, none⟩ = some (.int .i64 0) := (hz1.cell 1).trans rfl
  have hf1 := hz1.frozen 0
  have hf2 := hz1.frozen 1
  clear HU
  go_wp2_with fail
  refine bodyPost_ret (v := .tuple #[cur u0 a0 c0 i0, .int .i64 (hlf v), .int .i64 e0]) ((results_arr_tmp2 (p := 2) (q := 3) (r := 4) rfl _ _ (w.heap.size + 1) _ #[.slice u0 a0 c0, .int .i64 i0] (0, 0) _ rfl ((hz1.set_ 0 (.slice u0 a0 c0)).set_ 1 (.int .i64 i0)) Try.underlying39 rfl (cur_sized _ _)).trans rfl) rfl ?_
  exact ⟨rfl, (hB2.setCell (p := ⟨w.heap.size + 1, 0, none⟩) (show w.heap.size ≤ w.heap.size + 1 by omega) _).setCell (p := ⟨w.heap.size + 1, 1, none⟩) (show w.heap.size ≤ w.heap.size + 1 by omega) _⟩
end Go.Proofs.Ytkhdeoihjnpnaaa
