/- Contracts and laws of a chapter that its statement of names leans on. Each states its conditions. -/
import Derived.Test.YtldaijkcmnnjpaaWireReads0
namespace Go.Proofs.Ytldaijkcmnnjpaa
open Go.RowKit Wire
set_option linter.unusedVariables false
theorem size8 : ∀ w, (sizeOf 5).run Try.prog w = .ok 1 w := fun _ => by kernel_rfl
theorem sl_lh (A : Option Addr) (n c i v : Nat) {a b : Int} (ha : a = i) (hb : b = i + v) (hc : i + v ≤ c) (W : World) :
    (Instr.slice 25 (.slice A n c) (some (.int .i64 a)) (some (.int .i64 b)) none).run Try.prog W = .ok (.slice (sA A c i) v (c - i)) W := slice_lh Try.underlying25 size8 A n c i v ha hb hc W
/-- What Unfixed answers: the error, the number, the cursor. -/
def ufE (l : List UInt8) (a wd : Int) : Int := if ckB l.length a then (if wdB wd then (if (l.length : Int) - a < wd then 24 else 0) else 2) else 8
def ufN (l : List UInt8) (a wd : Int) : Nat := if ufE l a wd = 0 then unl ((l.drop a.toNat).take wd.toNat) else 0
def ufC (A : Option Addr) (n c : Nat) (l : List UInt8) (a wd : Int) : Value := if ufE l a wd = 0 then cur A n c (a + wd) else cur none 0 0 0
theorem uf_bad {l : List UInt8} {a wd : Int} {e : Int} (A : Option Addr) (n c : Nat) (h : ufE l a wd = e) (he : e ≠ 0) : ufN l a wd = 0 ∧ ufC A n c l a wd = cur none 0 0 0 := by
  subst h; simp [ufN, ufC, he]

end Go.Proofs.Ytldaijkcmnnjpaa
