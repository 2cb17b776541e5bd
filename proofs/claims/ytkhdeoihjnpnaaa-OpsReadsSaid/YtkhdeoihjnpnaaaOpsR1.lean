/- The reference's table of operands, and what fits one. Each states its conditions. -/
import Derived.Test.YtkhdeoihjnpnaaaOps1
import Derived.BigQuiet
namespace Go.Proofs.Ytkhdeoihjnpnaaa
open Go.RowKit Wire
set_option linter.unusedVariables false

/-- What the reference says of the operands of an operation, a letter each. -/
def shR (op : Int) : ByteArray := if op = 1 then ⟨#[119, 110, 45]⟩ else if op = 2 then ⟨#[119, 116, 45]⟩ else if op = 3 then ⟨#[119, 98, 45]⟩ else if op = 4 ∨ op = 15 then ⟨#[119, 45, 45]⟩ else if op = 5 ∨ op = 12 ∨ op = 16 ∨ op = 18 ∨ op = 21 then ⟨#[119, 114, 45]⟩ else if op = 6 ∨ op = 7 ∨ op = 8 ∨ op = 9 ∨ op = 10 ∨ op = 11 ∨ op = 19 then ⟨#[119, 114, 114]⟩ else if op = 13 then ⟨#[119, 114, 102]⟩ else if op = 14 then ⟨#[114, 102, 114]⟩ else if op = 17 then ⟨#[114, 114, 45]⟩ else if op = 20 then ⟨#[114, 114, 114]⟩ else if op = 22 then ⟨#[105, 45, 45]⟩ else if op = 23 then ⟨#[114, 105, 45]⟩ else if op = 24 ∨ op = 28 ∨ op = 32 then ⟨#[114, 45, 45]⟩ else if op = 25 then ⟨#[103, 99, 45]⟩ else if op = 26 ∨ op = 27 then ⟨#[99, 45, 45]⟩ else if op = 29 then ⟨#[119, 119, 45]⟩ else if op = 30 ∨ op = 31 then ⟨#[45, 45, 45]⟩ else if op = 33 then ⟨#[119, 114, 45]⟩ else if op = 34 then ⟨#[101, 45, 45]⟩ else ⟨#[]⟩
/-- What fits an operand of some kind. -/
def ftR (k n : Int) : Bool := if k = 45 then decide (n = 0) else if k = 119 ∨ k = 114 then decide (0 ≤ n) && decide (n < 16) else if k = 103 ∨ k = 101 then decide (-1 ≤ n) && decide (n < 16) else if k = 116 ∨ k = 99 then decide (0 ≤ n) && decide (n < 32) else if k = 98 then decide (0 ≤ n) && decide (n < 2) else if k = 102 then decide (0 ≤ n) && decide (n < 8) else if k = 105 then decide (0 ≤ n) && decide (n < 200) else true
def sgR (k : Int) : Bool := decide (k = 110) || (decide (k = 103) || decide (k = 101))

set_option maxRecDepth 100000 in
set_option maxHeartbeats 1600000 in
theorem shR_any (op : Int) (hop : 0 ≤ op ∧ op < 256) (w : World) :
    Calls Try.prog 40 #[.int .u8 op] w fun e w' => e = .returned (.string (shR op)) ∧ w = w' := by
  go_enter Try.func40, Try.ntmps40
  go_wp2_with fail
  all_goals (go_ret; refine ⟨?_, rfl⟩; simp_all [shR])

set_option maxRecDepth 100000 in
set_option maxHeartbeats 1600000 in
theorem ftR_any (k n : Int) (hk : 0 ≤ k ∧ k < 256) (hn : -9223372036854775808 ≤ n ∧ n ≤ 9223372036854775807) (w : World) :
    Calls Try.prog 44 #[.int .u8 k, .int .i64 n] w fun e w' => e = .returned (.bool (ftR k n)) ∧ w = w' := by
  go_enter Try.func44, Try.ntmps44
  go_wp2_with fail
  all_goals (go_ret; refine ⟨?_, rfl⟩; simp_all [ftR] <;> first | omega | (rw [Bool.eq_iff_iff]; simp; done) | (rw [Bool.eq_iff_iff]; simp; omega))

set_option maxRecDepth 100000 in
set_option maxHeartbeats 1600000 in
theorem sgR_any (k : Int) (hk : 0 ≤ k ∧ k < 256) (w : World) :
    Calls Try.prog 42 #[.int .u8 k] w fun e w' => e = .returned (.bool (sgR k)) ∧ w = w' := by
  go_enter Try.func42, Try.ntmps42
  go_wp2_with fail
  all_goals (go_ret; refine ⟨?_, rfl⟩; simp_all [sgR] <;> first | omega | (rw [Bool.eq_iff_iff]; simp; done) | (rw [Bool.eq_iff_iff]; simp; omega))

end Go.Proofs.Ytkhdeoihjnpnaaa
