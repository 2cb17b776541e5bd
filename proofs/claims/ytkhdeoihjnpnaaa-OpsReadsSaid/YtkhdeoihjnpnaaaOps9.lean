/- The contract of Decode. It states its conditions. -/
import Derived.Test.YtkhdeoihjnpnaaaOps7
import Derived.Test.YtkhdeoihjnpnaaaWireUnsig
import Derived.Test.YtkhdeoihjnpnaaaWireBackLaw
import Derived.BigQuiet
namespace Go.Proofs.Ytkhdeoihjnpnaaa
open Go.RowKit Wire
set_option linter.unusedVariables false

theorem insT : AggT Try.prog 23 4 := ⟨⟨_, Try.underlying23, rfl⟩, by kernel_rfl⟩
/-- An operand that is read. -/
def dvN (u : Use) (l : List UInt8) (p : Nat) : Int := if u.1 < 0 then hlf (uvN l (p : Int) 18446744073709551615) else ((min (uvN l (p : Int) 18446744073709551615) 1048576 : Nat) : Int)
/-- The operands: an error, the numbers, where they end. -/
def dcL : Nat → List Use → List UInt8 → Nat → Int × List Int × Nat
  | n + 1, u :: us, l, p => if uvE l (p : Int) 18446744073709551615 ≠ 0 then (uvE l (p : Int) 18446744073709551615, [], p) else ((dcL n us l (p + (uvR l (p : Int)).2.2)).1, dvN u l p :: (dcL n us l (p + (uvR l (p : Int)).2.2)).2.1, (dcL n us l (p + (uvR l (p : Int)).2.2)).2.2)
  | _, _, _, p => (0, [], p)
theorem dcL_zero (us : List Use) (l : List UInt8) (p : Nat) : dcL 0 us l p = (0, [], p) := by unfold dcL; rfl
theorem dcL_nil (n : Nat) (l : List UInt8) (p : Nat) : dcL n [] l p = (0, [], p) := by cases n <;> unfold dcL <;> rfl
theorem dcL_bad {n : Nat} {u : Use} {us : List Use} {l : List UInt8} {p : Nat} (h : uvE l (p : Int) 18446744073709551615 ≠ 0) : (dcL (n + 1) (u :: us) l p).1 = uvE l (p : Int) 18446744073709551615 := by rw [dcL, if_pos h]
theorem dcL_ok {n : Nat} {u : Use} {us : List Use} {l : List UInt8} {p : Nat} (h : uvE l (p : Int) 18446744073709551615 = 0) : dcL (n + 1) (u :: us) l p = ((dcL n us l (p + (uvR l (p : Int)).2.2)).1, dvN u l p :: (dcL n us l (p + (uvR l (p : Int)).2.2)).2.1, (dcL n us l (p + (uvR l (p : Int)).2.2)).2.2) := by rw [dcL, if_neg (by omega)]
def padI (v : List Int) (i : Nat) : Int := v.getD i 0
def dcD (l : List UInt8) (a : Nat) : Int × List Int × Nat := dcL (shp (l.getD a 0).toNat).2.toNat (shp (l.getD a 0).toNat).1 l (a + 1)
/-- What Decode answers: an error. -/
def dcE (l : List UInt8) (a : Int) : Int :=
  if ckB l.length a = false then 8 else if a.toNat = l.length then 24 else if (shp (l.getD a.toNat 0).toNat).2 < 0 then 12
  else if (dcD l a.toNat).1 ≠ 0 then (dcD l a.toNat).1 else if ckI (l.getD a.toNat 0).toNat (padI (dcD l a.toNat).2.1 0) (padI (dcD l a.toNat).2.1 1) (padI (dcD l a.toNat).2.1 2) = 0 then 0 else 12
def DeP (w : World) (A : Option Addr) (n c : Nat) (l : List UInt8) (a : Int) (e : Ending) (w' : World) : Prop :=
  ((dcE l a = 0 ∧ e = .returned (.tuple #[cur A n c ((dcD l a.toNat).2.2 : Nat), insV (l.getD a.toNat 0).toNat (padI (dcD l a.toNat).2.1 0) (padI (dcD l a.toNat).2.1 1) (padI (dcD l a.toNat).2.1 2), .int .i64 0])) ∨
   (dcE l a ≠ 0 ∧ e = .returned (.tuple #[cur none 0 0 0, insV 0 0 0 0, .int .i64 (dcE l a)]))) ∧ Below w.heap.size w w'

set_option maxRecDepth 100000 in
set_option maxHeartbeats 1600000 in
theorem fail6_any (er : Int) (w : World) :
    Calls Try.prog 26 #[.int .i64 er] w fun e w' => e = .returned (.tuple #[cur none 0 0 0, insV 0 0 0 0, .int .i64 er]) ∧ Below w.heap.size w w' := by
  go_enter Try.func26, Try.ntmps26
  go_wp2_with fail
  refine ret_cc1 rfl curT insT rfl (Blk.alloc (Blk.new _ _ _) _) (by rfl) rfl (Blk.newAt (by simp) _ _) (by rfl) ?_
  exact ⟨rfl, ((Below.refl w.heap.size w).alloc (Nat.le_refl _) _).alloc (by simp) _⟩

end Go.Proofs.Ytkhdeoihjnpnaaa
