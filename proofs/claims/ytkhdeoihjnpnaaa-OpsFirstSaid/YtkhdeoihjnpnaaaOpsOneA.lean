/- Short laws of OpsOne and OpsFirst. -/
import Derived.Test.YtkhdeoihjnpnaaaOps10
import Derived.Test.YtkhdeoihjnpnaaaOpsLaw
namespace Go.Proofs.Ytkhdeoihjnpnaaa
open Go.RowKit Wire
set_option linter.unusedVariables false
theorem tl_yes6 (s : ByteArray) : (s.toList == s.toList) = true := by simp
theorem encL_len (n : Nat) (a b c : Use) (x y z : Int) : (encL n [a, b, c] [x, y, z]).length ≤ 30 := by
  have q1 := encU_len a x
  have q2 := encU_len b y
  have q3 := encU_len c z
  rcases n with _ | _ | _ | n
  · simp [encL]
  · simp [encL]; omega
  · simp [encL]; omega
  · cases n <;> simp [encL] <;> omega
theorem enI_len (op : Nat) (x y z : Int) : (enI op x y z).length ≤ 31 := by
  unfold enI
  by_cases h : ckI op x y z = 0
  · rw [if_pos h]
    obtain ⟨a1, a2, a3, a4, b1, b2, b3, b4, c1, c2, c3, c4, n, hs, _, _⟩ := shp_form op
    rw [hs]
    have := encL_len n.toNat (a1, a2, a3, a4) (b1, b2, b3, b4) (c1, c2, c3, c4) x y z
    simp only [List.length_cons]
    omega
  · rw [if_neg h]; simp
theorem ck_08' (op : Nat) (x y z : Int) : ckI op x y z = 0 ∨ ckI op x y z = 8 := by
  unfold ckI
  by_cases h : (shp op).2 < 0
  · rw [if_pos h]; exact .inr rfl
  rw [if_neg h]
  by_cases h2 : fitL (shp op).1 [x, y, z] = true
  · rw [if_pos h2]; exact .inl rfl
  · rw [if_neg h2]; exact .inr rfl
theorem sl6_h (A : Option Addr) (n c v : Nat) (hc : v ≤ c) (W : World) : (Instr.slice 37 (.slice A n c) none (some (.int .i64 (v : Int))) none).run Try.prog W = .ok (.slice (sA A c 0) v c) W := by
  have hs : ∀ w, (sizeOf 5).run Try.prog w = .ok 1 w := fun _ => by kernel_rfl
  have ht' : Try.prog.underlying 37 = some (.slice (Try.prog.elem 37)) := by rw [elem_of Try.underlying37]; exact Try.underlying37
  rw [run_slice_h W 37 A n c ht' .i64 (v : Int) (by omega) (by omega), elem_of Try.underlying37, hs]
  simp only [Result.andThen, sliced, sA, Nat.mul_one]
  rw [show ((v : Int)).toNat = v from by simp, Nat.sub_zero, Nat.sub_zero]

end Go.Proofs.Ytkhdeoihjnpnaaa
