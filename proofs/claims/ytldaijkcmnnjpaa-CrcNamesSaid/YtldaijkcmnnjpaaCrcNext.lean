/- Contracts and laws of a chapter that its statement of names leans on. Each states its conditions. -/
import Derived.Test.YtldaijkcmnnjpaaCrcSteps
namespace Go.Proofs.Ytldaijkcmnnjpaa
open Go.RowKit Crc
set_option linter.unusedVariables false
/-- What Next returns of a table that is the right one or not, a number of bytes, a checksum and bytes: the checksum, the error. -/
def nxtV (b : Bool) (n s : Nat) (l : List UInt8) : Nat := if b then (if n ≤ 200000 then nxt s l else 0) else 0
def nxtE (b : Bool) (n : Nat) : Int := if b then (if n ≤ 200000 then 0 else 4) else 8
theorem not_u32 (y : Nat) (hy : y < 4294967296) : bits .xor .u32 IntKind.u32.max (y : Int) = ((cpl y : Nat) : Int) := by
  have h := u32_xor_nat 4294967295 y (by omega) hy
  rw [Nat.xor_comm, cpl_xor hy] at h; exact h
theorem check_ok (f : Nat → Nat) (hb : eqn 256 f el = true) (w : World) :
    Calls Try.prog 51 #[.agg (arr .u32 256 f)] w fun e w' => e = .returned (.int .i64 0) ∧ Below w.heap.size w w' := check_any f true hb w
theorem check_bad (f : Nat → Nat) (hb : eqn 256 f el = false) (w : World) :
    Calls Try.prog 51 #[.agg (arr .u32 256 f)] w fun e w' => e = .returned (.int .i64 8) ∧ Below w.heap.size w w' := check_any f false hb w
set_option maxRecDepth 100000 in
theorem next_bad (f : Nat → Nat) (hb : eqn 256 f el = false) (s : Nat) (v : Value) (w : World) :
    Calls Try.prog 10 #[.agg (arr .u32 256 f), .int .u32 (s : Int), v] w fun e w' => e = .returned (.tuple #[.int .u32 0, .int .i64 8]) ∧ Below w.heap.size w w' := by
  have HB := Lib.hid hb
  clear hb
  go_enter Try.func10, Try.ntmps10
  go_wp2_with (refine wpList_load_row rfl 23 _ rfl w.heap.size rfl _ _ (0, 0) _ (Blk.new w _ _) Try.underlying23 rfl (tab_sized _) ?_)
  refine (check_bad f HB.out _).mono ?_
  rintro e w1 ⟨rfl, hb1⟩
  go_wp2
  go_ret2
  exact ⟨rfl, ((Below.refl _ _).alloc (Nat.le_refl _) _).trans (hb1.mono (by simp))⟩
set_option maxRecDepth 100000 in
theorem next_ok (f : Nat → Nat) (hb : eqn 256 f el = true) (s : Nat) (hs : s < 4294967296) (A : Option Addr) (n c : Nat) (l : List UInt8) (w : World)
    (hr : Rb w A n l) (hn : n ≤ 140737488351232) :
    Calls Try.prog 10 #[.agg (arr .u32 256 f), .int .u32 (s : Int), .slice A n c] w fun e w' => e = .returned (.tuple #[.int .u32 (nxtV true n s l : Nat), .int .i64 (nxtE true n)]) ∧ Below w.heap.size w w' := by
  have HB := Lib.hid hb
  clear hb
  have hf := fun i (h : i < 256) => show f i < 4294967296 from by rw [eqn_true.1 HB.out i h]; exact el_lt (by omega)
  have HF := Lib.hid hf
  clear hf
  have HG := Lib.hid (stsf_congr (eqn_true.1 HB.out) (cpl s) l)
  have HR := Lib.hid hr
  clear hr
  by_cases hlt : n ≤ 200000
  · have HV := Lib.hid (show nxtV true n s l = nxt s l from by simp [nxtV, hlt])
    have HE := Lib.hid (show nxtE true n = 0 from by simp [nxtE, hlt])
    go_enter Try.func10, Try.ntmps10
    go_wp2_with (refine wpList_load_row rfl 23 _ rfl w.heap.size rfl _ _ (0, 0) _ (Blk.new w _ _) Try.underlying23 rfl (tab_sized _) ?_)
    refine (check_ok f HB.out _).mono ?_
    rintro e w1 ⟨rfl, hb1⟩
    have N1 := not_u32 s hs
    have hk := (Blk.new w 23 (arr .u32 256 f)).below hb1 (by simp)
    go_wp2_with (refine wpList_load_row rfl 23 _ rfl w.heap.size rfl _ _ (0, 0) _ hk Try.underlying23 rfl (tab_sized _) ?_)
    refine (steps_any f HF.out (cpl s) (cpl_lt s) A n c l w1 (HR.out.mv (((Below.refl _ _).alloc (Nat.le_refl _) _).trans (hb1.mono (by simp)))) hn).mono ?_
    rintro e w2 ⟨rfl, hb2⟩
    rw [HG.out]
    have N2 := not_u32 (stsf el (cpl s) l) (stsf_lt (fun i h => el_lt (by omega)) l (cpl_lt s))
    go_wp2
    go_ret2
    exact ⟨by rw [HV.out, HE.out]; rfl, (((Below.refl _ _).alloc (Nat.le_refl _) _).trans (hb1.mono (by simp))).trans (hb2.mono (by have := hb1.size; simp at this; omega))⟩
  · have HV := Lib.hid (show nxtV true n s l = 0 from by simp [nxtV, hlt])
    have HE := Lib.hid (show nxtE true n = 4 from by simp [nxtE, hlt])
    go_enter Try.func10, Try.ntmps10
    go_wp2_with (refine wpList_load_row rfl 23 _ rfl w.heap.size rfl _ _ (0, 0) _ (Blk.new w _ _) Try.underlying23 rfl (tab_sized _) ?_)
    refine (check_ok f HB.out _).mono ?_
    rintro e w1 ⟨rfl, hb1⟩
    go_wp2
    go_ret2
    exact ⟨by rw [HV.out, HE.out]; rfl, ((Below.refl _ _).alloc (Nat.le_refl _) _).trans (hb1.mono (by simp))⟩
/-- Next, for every table. -/
theorem next_all (f : Nat → Nat) (b : Bool) (hb : eqn 256 f el = b) (s : Nat) (hs : s < 4294967296) (A : Option Addr) (n c : Nat) (l : List UInt8) (w : World)
    (hr : Rb w A n l) (hn : n ≤ 140737488351232) :
    Calls Try.prog 10 #[.agg (arr .u32 256 f), .int .u32 (s : Int), .slice A n c] w fun e w' => e = .returned (.tuple #[.int .u32 (nxtV b n s l : Nat), .int .i64 (nxtE b n)]) ∧ Below w.heap.size w w' := by
  cases b
  · exact next_bad f hb s _ w
  · exact next_ok f hb s hs A n c l w hr hn
set_option maxRecDepth 100000 in
theorem sum_all (f : Nat → Nat) (b : Bool) (hb : eqn 256 f el = b) (A : Option Addr) (n c : Nat) (l : List UInt8) (w : World)
    (hr : Rb w A n l) (hn : n ≤ 140737488351232) :
    Calls Try.prog 9 #[.agg (arr .u32 256 f), .slice A n c] w fun e w' => e = .returned (.tuple #[.int .u32 (nxtV b n 0 l : Nat), .int .i64 (nxtE b n)]) ∧ Below w.heap.size w w' := by
  have HB := Lib.hid hb
  clear hb
  have HR := Lib.hid (hr.mv ((Below.refl w.heap.size w).alloc (Nat.le_refl _) (.cells (arr .u32 256 f) 23)))
  clear hr
  go_enter Try.func9, Try.ntmps9
  go_wp2_with (refine wpList_load_row rfl 23 _ rfl w.heap.size rfl _ _ (0, 0) _ (Blk.new w _ _) Try.underlying23 rfl (tab_sized _) ?_)
  refine (next_all f b HB.out 0 (by omega) A n c l _ HR.out hn).mono ?_
  rintro e w1 ⟨rfl, hb1⟩
  go_wp2
  go_ret2
  exact ⟨rfl, ((Below.refl _ _).alloc (Nat.le_refl _) _).trans (hb1.mono (by simp))⟩

end Go.Proofs.Ytldaijkcmnnjpaa
