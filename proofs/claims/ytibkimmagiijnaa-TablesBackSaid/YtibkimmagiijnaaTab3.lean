/- Contracts of the reference's Value, Listed, List, At, and of Make and Made. Each states its conditions. -/
import Derived.Test.YtibkimmagiijnaaTab2
namespace Go.Proofs.Ytibkimmagiijnaa
open Go.RowKit Wire
set_option linter.unusedVariables false

/-- The value at an instruction. -/
def vlF (i : Int) : List (Int × Nat) → Nat → Nat
  | [], v => v
  | p :: r, v => vlF i r (if p.1 ≤ i then p.2 else v)
def valA (L : List (Int × Nat)) (i : Int) : Nat := vlF i L 0
theorem vlF_lt {i : Int} {L : List (Int × Nat)} {v : Nat} (h : ∀ p ∈ L, fitR p) (hv : v < 18446744073709551616) : vlF i L v < 18446744073709551616 := by
  induction L generalizing v with
  | nil => exact hv
  | cons p L ih =>
    refine ih (fun q hq => h q (by simp [hq])) ?_
    have := (h p (by simp)).2
    split <;> omega
theorem valA_lt {i : Int} {L : List (Int × Nat)} (h : ∀ p ∈ L, fitR p) : valA L i < 18446744073709551616 := vlF_lt h (by omega)

set_option maxRecDepth 100000 in
set_option maxHeartbeats 3200000 in
theorem value_any (A : Option Addr) (n c : Nat) (L : List (Int × Nat)) (k : Int) (w : World) (hr : RdN w A n L) (hc : n ≤ c ∧ c ≤ 9223372036854775807) :
    Calls Try.prog 31 #[.slice A n c, .int .i64 k] w fun e w' => e = .returned (.int .u64 (valA L k : Nat)) ∧ w = w' := by
  have HL := Lib.hid hr.len
  go_enter Try.func31, Try.ntmps31
  go_wp2_with fail
  go_loopw [5, 6] (fun v i wr => ∃ (j q : Nat), j ≤ n ∧ i = .int .i64 (j : Int) ∧ v = .int .u64 (q : Int) ∧ vlF k (L.drop j) q = valA L k ∧ w = wr) (fun _ i _ => n - (intOf i).toNat)
  case atStart => exact ⟨0, 0, by omega, rfl, rfl, rfl, rfl⟩
  case round =>
    obtain ⟨j, q, hj, rfl, rfl, ht, rfl⟩ := hrel
    have HT := Lib.hid ht
    clear ht
    by_cases hlt : j < n
    · obtain ⟨ad, f, z, rfl, _, hz, c0, c1, _, _⟩ := hr.at_ hlt
      have hdr := drop_get hz
      by_cases hne : f ≤ k
      · have d1 : decide (f ≤ k) = true := by simpa using hne
        have HN := Lib.hid (show vlF k (L.drop (j + 1)) z = valA L k from by
          have h := HT.out
          rw [hdr, vlF, if_pos hne] at h
          exact h)
        clear hdr hz hne
        go_wp2_with fail
        go_roundw
        case rel => exact ⟨j + 1, z, by omega, by go_num, rfl, HN.out, trivial⟩
        case measure => simp [intOf]; omega
      · have d1 : decide (f ≤ k) = false := by simpa using hne
        have HN := Lib.hid (show vlF k (L.drop (j + 1)) q = valA L k from by
          have h := HT.out
          rw [hdr, vlF, if_neg hne] at h
          exact h)
        clear hdr hz hne
        go_wp2_with fail
        go_roundw
        case rel => exact ⟨j + 1, q, by omega, by go_num, rfl, HN.out, trivial⟩
        case measure => simp [intOf]; omega
    · have HE := Lib.hid (show valA L k = q from by
        rw [← HT.out, List.drop_of_length_le (by rw [HL.out]; omega)]; rfl)
      go_wp2_with fail
      go_ret
      exact ⟨by rw [HE.out]; rfl, rfl⟩

theorem slU : IsSl Try.prog 25 31 (.int .u64 0) 1 8 := ⟨Try.underlying25, by kernel_rfl, rfl, by omega, by omega⟩
theorem slR : IsSl Try.prog 22 61 (.agg #[.int .i64 0, .int .u64 0]) 2 16 := ⟨Try.underlying22, by kernel_rfl, rfl, by omega, by omega⟩

/-- The values of runs at the first instructions. -/
def lstF (L : List (Int × Nat)) (n : Nat) : List Nat := (List.range n).map fun i : Nat => valA L (i : Int)
theorem lstF_len (L : List (Int × Nat)) (n : Nat) : (lstF L n).length = n := by simp [lstF]
theorem lstF_succ (L : List (Int × Nat)) (n : Nat) : lstF L (n + 1) = lstF L n ++ [valA L (n : Int)] := by simp [lstF, List.range_succ]
theorem reads_two (w : World) (u v : Value) (e : TypeId) : Reads (w.alloc (.cells #[u, v] e)) (w.alloc (.cells #[u, v] e)).heap.size 2 (some ⟨w.heap.size, 0, none⟩) 1 [u, v] := by
  refine ⟨rfl, fun _ => ⟨_, rfl, by simp, fun j x hx => ?_⟩⟩
  have hadd : (⟨w.heap.size, 0, none⟩ : Addr).add j = ⟨w.heap.size, j, none⟩ := by unfold Addr.add; split <;> simp_all
  rw [hadd, (Blk.new w e #[u, v]).cell j]
  simpa using hx
theorem own_rdU {w : World} {base : Nat} {e : TypeId} {A : Option Addr} {n c : Nat} {l : List Nat} (h : w.ownsRow base e 1 (.slice A n c) n (l.map vU)) (hl : ∀ x ∈ l, x < 18446744073709551616) : RdU w A n l := ⟨own_reads h, hl⟩
theorem own_rdN {w : World} {base : Nat} {e : TypeId} {A : Option Addr} {n c : Nat} {L : List (Int × Nat)} (h : w.ownsRow base e 2 (.slice A n c) n (rnC L)) (hl : ∀ p ∈ L, fitR p) : RdN w A n L := ⟨own_reads h, hl⟩

set_option maxRecDepth 100000 in
set_option maxHeartbeats 3200000 in
theorem listed_any (A : Option Addr) (n c : Nat) (L : List (Int × Nat)) (k : Nat) (w : World) (hr : RdN w A n L) (hc : n ≤ c ∧ c ≤ 9223372036854775807) (hk : k ≤ 1000) :
    Calls Try.prog 32 #[.slice A n c, .int .i64 (k : Int)] w fun e w' => ∃ A' c', e = .returned (.slice A' k c') ∧ w'.ownsRow w.heap.size 31 1 (.slice A' k c') k ((lstF L k).map vU) ∧ Below w.heap.size w w' := by
  go_enter Try.func32, Try.ntmps32
  go_wp2_with fail
  go_loopw [5, 6] (fun v i wr => ∃ (j : Nat) (A1 : Option Addr) (c1 : Nat), j ≤ k ∧ i = .int .i64 (j : Int) ∧ v = .slice A1 j c1 ∧ wr.ownsRow w.heap.size 31 1 (.slice A1 j c1) j ((lstF L j).map vU) ∧ Below w.heap.size w wr) (fun _ i _ => k - (intOf i).toNat)
  case atStart => exact ⟨0, none, 0, by omega, rfl, rfl, World.ownsRow_nil _ _ _ _, Below.refl _ _⟩
  case round =>
    obtain ⟨j, A1, c1, hj, rfl, rfl, hown, hB⟩ := hrel
    by_cases hlt : j < k
    · have HS := Lib.hid (lstF_succ L j)
      go_wp2_with fail
      refine (value_any A n c L (j : Int) _ (hr.mv hB) hc).mono ?_
      rintro e wq ⟨rfl, rfl⟩
      generalize valA L (j : Int) = q at *
      go_wp2_with (at_builtin; refine wpList_app rfl (.tmp 12) (.tmp 16) _ rfl slU w.heap.size _ j _ rfl (hown.alloc _) _ (some ⟨wr.heap.size, 0, none⟩) 1 1 [.int .u64 (q : Int)] rfl (reads_one wr _ _) (by simp [Value.oneCell']) (by omega) (by have := hB.size; simp; omega) ?_; intro A2 c2 w2 hown2 hg2 hb2 hc2)
      go_roundw
      case rel => exact ⟨j + 1, A2, c2, by omega, by go_num, rfl, by rw [HS.out, List.map_append]; exact hown2, (hB.alloc hB.size _).trans hb2⟩
      case measure => simp [intOf]; omega
    · obtain rfl : j = k := by omega
      go_wp2_with fail
      go_ret
      exact ⟨A1, c1, rfl, hown, hB⟩

/-- What List answers. -/
def lsL (L : List (Int × Nat)) (n : Int) : List Nat := if ckT L n = 0 then lstF L n.toNat else []
theorem ck_zero8 {L : List (Int × Nat)} {n : Int} (h : ckT L n = 0) : (1 ≤ n ∧ n ≤ 200) ∧ fnB L n = true := by
  unfold ckT at h
  split at h
  · rename_i h1
    split at h
    · rename_i h2; exact ⟨h1, h2⟩
    · omega
  · omega

set_option maxRecDepth 100000 in
set_option maxHeartbeats 3200000 in
theorem relist_any (A : Option Addr) (n c : Nat) (L : List (Int × Nat)) (k : Int) (w : World) (hr : RdN w A n L) (hc : n ≤ c ∧ c ≤ 9223372036854775807) :
    Calls Try.prog 17 #[.slice A n c, .int .i64 k] w fun e w' => ∃ A' c', e = .returned (.tuple #[.slice A' (lsL L k).length c', .int .i64 (ckT L k)]) ∧ w'.ownsRow w.heap.size 31 1 (.slice A' (lsL L k).length c') (lsL L k).length ((lsL L k).map vU) ∧ Below w.heap.size w w' := by
  have HK := Lib.hid (fun W (h : RdN W A n L) => recheck8_any A n c L k W h hc)
  by_cases h : ckT L k = 0
  rotate_left
  · have HV := Lib.hid (show lsL L k = [] from by rw [lsL, if_neg h])
    have d1 : (ckT L k != 0) = true := by rw [bne_iff_ne]; exact h
    generalize ckT L k = x at *
    clear h
    go_enter Try.func17, Try.ntmps17
    go_wp2_with fail
    refine (HK.out _ hr).mono ?_
    rintro e w1 ⟨rfl, hb⟩
    go_wp2_with fail
    go_ret2
    exact ⟨none, 0, by rw [HV.out]; rfl, by rw [HV.out]; exact World.ownsRow_nil _ _ _ _, hb⟩
  obtain ⟨⟨h1, h2⟩, _⟩ := ck_zero8 h
  obtain ⟨m, rfl⟩ : ∃ m : Nat, k = (m : Int) := ⟨k.toNat, by omega⟩
  have HV := Lib.hid (show lsL L (m : Int) = lstF L m from by rw [lsL, if_pos h]; rfl)
  rw [HV.out, lstF_len]
  rw [h] at HK ⊢
  clear h
  go_enter Try.func17, Try.ntmps17
  go_wp2_with fail
  refine (HK.out _ hr).mono ?_
  rintro e w1 ⟨rfl, hb⟩
  go_wp2_with fail
  refine (listed_any A n c L m _ (hr.mv hb) hc (by omega)).mono ?_
  rintro e w2 ⟨A2, c2, rfl, o2, b2⟩
  go_wp2_with fail
  go_ret2
  exact ⟨A2, c2, rfl, own_low o2 hb.size, hb.trans (b2.mono hb.size)⟩

/-- What At answers: the error, the value. -/
def atE (L : List (Int × Nat)) (n i : Int) : Int := if ckT L n = 0 then (if 0 ≤ i ∧ i < n then 0 else 2) else ckT L n
def atV (L : List (Int × Nat)) (n i : Int) : Nat := if atE L n i = 0 then valA L i else 0

set_option maxRecDepth 100000 in
set_option maxHeartbeats 3200000 in
theorem reat_any (A : Option Addr) (n c : Nat) (L : List (Int × Nat)) (k i : Int) (w : World) (hr : RdN w A n L) (hc : n ≤ c ∧ c ≤ 9223372036854775807) :
    Calls Try.prog 16 #[.slice A n c, .int .i64 k, .int .i64 i] w fun e w' => e = .returned (.tuple #[.int .u64 (atV L k i : Nat), .int .i64 (atE L k i)]) ∧ Below w.heap.size w w' := by
  have HK := Lib.hid (fun W (h : RdN W A n L) => recheck8_any A n c L k W h hc)
  by_cases h : ckT L k = 0
  rotate_left
  · have HE := Lib.hid (show atE L k i = ckT L k from by rw [atE, if_neg h])
    have HV := Lib.hid (show atV L k i = 0 from by rw [atV, HE.out, if_neg h])
    have d1 : (ckT L k != 0) = true := by rw [bne_iff_ne]; exact h
    generalize ckT L k = x at *
    clear h
    go_enter Try.func16, Try.ntmps16
    go_wp2_with fail
    refine (HK.out _ hr).mono ?_
    rintro e w1 ⟨rfl, hb⟩
    go_wp2_with fail
    go_ret2
    exact ⟨by rw [HV.out, HE.out]; rfl, hb⟩
  have HE := Lib.hid (show atE L k i = if 0 ≤ i ∧ i < k then 0 else 2 from by rw [atE, if_pos h])
  rw [h] at HK
  clear h
  by_cases g : 0 ≤ i ∧ i < k
  rotate_left
  · rw [if_neg g] at HE
    have HV := Lib.hid (show atV L k i = 0 from by rw [atV, HE.out]; rfl)
    go_enter Try.func16, Try.ntmps16
    go_wp2_with (go_at_call 10; refine (HK.out _ hr).mono ?_; rintro e w1 ⟨rfl, hb⟩)
    all_goals first
      | (go_ret2; exact ⟨by rw [HV.out, HE.out]; rfl, hb⟩)
      | (exfalso; omega)
  rw [if_pos g] at HE
  have HV := Lib.hid (show atV L k i = valA L i from by rw [atV, HE.out]; rfl)
  have d1 : decide (i < 0) = false := by simp; omega
  have d2 : decide (k ≤ i) = false := by simp; omega
  clear g
  go_enter Try.func16, Try.ntmps16
  go_wp2_with fail
  refine (HK.out _ hr).mono ?_
  rintro e w1 ⟨rfl, hb⟩
  go_wp2_with fail
  refine (value_any A n c L i _ (hr.mv hb) hc).mono ?_
  rintro e wq ⟨rfl, rfl⟩
  go_wp2_with fail
  go_ret2
  exact ⟨by rw [HV.out, HE.out]; rfl, hb⟩

end Go.Proofs.Ytibkimmagiijnaa
