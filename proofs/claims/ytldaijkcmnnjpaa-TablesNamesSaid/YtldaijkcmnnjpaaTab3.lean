/- Contracts and laws of a chapter that its statement of names leans on. Each states its conditions. -/
import Derived.Test.YtldaijkcmnnjpaaTab2
namespace Go.Proofs.Ytldaijkcmnnjpaa
open Go.RowKit Wire
set_option linter.unusedVariables false
/-- The value at an instruction. -/
def vlF (i : Int) : List (Int × Nat) → Nat → Nat
  | [], v => v
  | p :: r, v => vlF i r (if p.1 ≤ i then p.2 else v)
def valA (L : List (Int × Nat)) (i : Int) : Nat := vlF i L 0
theorem slU : IsSl Try.prog 62 55 (.int .u64 0) 1 8 := ⟨Try.underlying62, by kernel_rfl, rfl, by omega, by omega⟩
theorem slR : IsSl Try.prog 58 57 (.agg #[.int .i64 0, .int .u64 0]) 2 16 := ⟨Try.underlying58, by kernel_rfl, rfl, by omega, by omega⟩
/-- The values of runs at the first instructions. -/
def lstF (L : List (Int × Nat)) (n : Nat) : List Nat := (List.range n).map fun i : Nat => valA L (i : Int)
theorem lstF_len (L : List (Int × Nat)) (n : Nat) : (lstF L n).length = n := by simp [lstF]
theorem reads_two (w : World) (u v : Value) (e : TypeId) : Reads (w.alloc (.cells #[u, v] e)) (w.alloc (.cells #[u, v] e)).heap.size 2 (some ⟨w.heap.size, 0, none⟩) 1 [u, v] := by
  refine ⟨rfl, fun _ => ⟨_, rfl, by simp, fun j x hx => ?_⟩⟩
  have hadd : (⟨w.heap.size, 0, none⟩ : Addr).add j = ⟨w.heap.size, j, none⟩ := by unfold Addr.add; split <;> simp_all
  rw [hadd, (Blk.new w e #[u, v]).cell j]
  simpa using hx
theorem own_rdN {w : World} {base : Nat} {e : TypeId} {A : Option Addr} {n c : Nat} {L : List (Int × Nat)} (h : w.ownsRow base e 2 (.slice A n c) n (rnC L)) (hl : ∀ p ∈ L, fitR p) : RdN w A n L := ⟨own_reads h, hl⟩
/-- What List answers. -/
def lsL (L : List (Int × Nat)) (n : Int) : List Nat := if ckT L n = 0 then lstF L n.toNat else []
theorem ck_zero8 {L : List (Int × Nat)} {n : Int} (h : ckT L n = 0) : (1 ≤ n ∧ n ≤ 200) ∧ fnB L n = true := by
  unfold ckT at h
  split at h
  · rename_i h1
    split at h
    · rename_i h2; exact ⟨h1, h2⟩
    · omega
  · omega
/-- What At answers: the error, the value. -/
def atE (L : List (Int × Nat)) (n i : Int) : Int := if ckT L n = 0 then (if 0 ≤ i ∧ i < n then 0 else 2) else ckT L n
def atV (L : List (Int × Nat)) (n i : Int) : Nat := if atE L n i = 0 then valA L i else 0

end Go.Proofs.Ytldaijkcmnnjpaa
