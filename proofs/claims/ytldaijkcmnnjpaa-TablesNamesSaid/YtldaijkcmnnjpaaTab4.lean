/- Contracts and laws of a chapter that its statement of names leans on. Each states its conditions. -/
import Derived.Test.YtldaijkcmnnjpaaTab3
namespace Go.Proofs.Ytldaijkcmnnjpaa
open Go.RowKit Wire
set_option linter.unusedVariables false
/-- The runs of the values behind a value, from an index on. -/
def mdR : Nat → Nat → List Nat → List (Int × Nat)
  | _, _, [] => []
  | i, p, x :: r => if x = p then mdR (i + 1) x r else ((i : Int), x) :: mdR (i + 1) x r
def made : List Nat → List (Int × Nat)
  | [] => []
  | x :: r => (0, x) :: mdR 1 x r
def mkE (v : List Nat) : Int := cnE (v.length : Int)
def mkL (v : List Nat) : List (Int × Nat) := if mkE v = 0 then made v else []
theorem md_same {v : List Nat} {out : List (Int × Nat)} {j p z : Nat} (h : out ++ mdR j p (v.drop j) = made v) (hz : v[j]? = some z) (e : z = p) : out ++ mdR (j + 1) z (v.drop (j + 1)) = made v := by
  rw [drop_get hz, mdR, if_pos e] at h; exact h
theorem md_diff {v : List Nat} {out : List (Int × Nat)} {j p z : Nat} (h : out ++ mdR j p (v.drop j) = made v) (hz : v[j]? = some z) (e : ¬ z = p) : (out ++ [((j : Int), z)]) ++ mdR (j + 1) z (v.drop (j + 1)) = made v := by
  rw [drop_get hz, mdR, if_neg e] at h; rw [← h]; simp
theorem md_first {v : List Nat} {z : Nat} (hz : v[0]? = some z) : ([] ++ [((0 : Int), z)]) ++ mdR 1 z (v.drop 1) = made v := by
  rcases v with _ | ⟨x, r⟩
  · simp at hz
  · simp at hz; subst hz; rfl
set_option maxRecDepth 100000 in
set_option maxHeartbeats 3200000 in
theorem make_any (A : Option Addr) (n c : Nat) (v : List Nat) (w : World) (hr : RdU w A n v) (hc : n ≤ c ∧ c ≤ 9223372036854775807) :
    Calls Try.prog 28 #[.slice A n c] w fun e w' => ∃ A' c', e = .returned (.tuple #[.slice A' (mkL v).length c', .int .i64 (mkE v)]) ∧ w'.ownsRow w.heap.size 57 2 (.slice A' (mkL v).length c') (mkL v).length (rnC (mkL v)) ∧ Below w.heap.size w w' := by
  have hl := hr.len
  have HL := Lib.hid hr.len
  have HM := Lib.hid (show mkE v = cnE (n : Int) from by rw [mkE, hl])
  clear hl
  by_cases h : 1 ≤ n ∧ n ≤ 200
  rotate_left
  · have HC := Lib.hid (show cnE (n : Int) = 2 from by rw [cnE, if_neg (by omega)])
    have HV := Lib.hid (show mkL v = [] from by rw [mkL, if_neg (by rw [HM.out, HC.out]; decide)])
    rw [HV.out, HM.out, HC.out]
    go_enter Try.func28, Try.ntmps28
    go_wp2_with fail
    refine (counted_any _ _).mono ?_
    rintro e w1 ⟨rfl, rfl⟩
    rw [HC.out]
    go_wp2_with fail
    go_ret2
    exact ⟨none, 0, rfl, World.ownsRow_nil _ _ _ _, Below.refl _ _⟩

  have HC := Lib.hid (show cnE (n : Int) = 0 from by rw [cnE, if_pos (by omega)])
  have HV := Lib.hid (show mkL v = made v from by rw [mkL, if_pos (by rw [HM.out, HC.out])])
  rw [HV.out, HM.out, HC.out]
  go_enter Try.func28, Try.ntmps28
  go_wp2_with fail
  refine (counted_any _ _).mono ?_
  rintro e w1 ⟨rfl, rfl⟩
  rw [HC.out]
  go_wp2_with fail
  go_loopw [5, 15] (fun v_ i wr => ∃ (j m : Nat) (out : List (Int × Nat)) (A1 : Option Addr) (c1 : Nat), j ≤ n ∧ i = .int .i64 (j : Int) ∧ v_ = .slice A1 m c1 ∧ out.length = m ∧ m ≤ j ∧ (j = 0 → out = []) ∧ (0 < j → ∃ p, v[j - 1]? = some p ∧ out ++ mdR j p (v.drop j) = made v) ∧ wr.ownsRow w.heap.size 57 2 (.slice A1 m c1) m (rnC out) ∧ Below w.heap.size w wr) (fun _ i _ => n - (intOf i).toNat)
  case atStart => exact ⟨0, 0, [], none, 0, by omega, rfl, rfl, rfl, by omega, fun _ => rfl, fun h => absurd h (by omega), World.ownsRow_nil _ _ _ _, Below.refl _ _⟩
  case round =>
    obtain ⟨j, m, out, A1, c1, hj, rfl, rfl, hml, hmj, h0, h1, hown, hB⟩ := hrel
    have H0 := Lib.hid h0
    have H1 := Lib.hid h1
    clear h0 h1
    by_cases hlt : j < n
    rotate_left
    · have hjn : j = n := by omega
      obtain ⟨p, _, hp⟩ := H1.out (by omega)
      have HE := Lib.hid (show out = made v from by
        rw [List.drop_of_length_le (by rw [HL.out]; omega)] at hp
        simpa [mdR] using hp)
      clear hp
      rw [HE.out] at hown hml
      go_wp2_with fail
      go_ret2
      exact ⟨A1, c1, by rw [hml]; rfl, by rw [hml]; exact hown, hB⟩
    obtain ⟨ad, z, hA, hab, hz, c0, _⟩ := (hr.mv hB).at_ hlt
    have HZ := Lib.hid hz
    clear hz
    rcases j with _ | j
    · subst hA
      rw [show ad.add 0 = ad from by simp [Addr.add]] at c0
      have HO := Lib.hid (H0.out rfl)
      go_wp2_with fail
      go_quiet (fail)
      replace hown := own_call hown (below_drewN (Below.refl _ wr) nq)
      replace hB := below_drewN hB nq
      replace c0 : (wr.drewN nq).cell? _ = _ := c0
      generalize wr.drewN nq = x at *
      go_wp2_with (at_builtin; refine wpList_app rfl (.tmp 32) (.tmp 39) _ rfl slR w.heap.size _ m (rnC out) rfl (own_call hown (Ext.al _ _)) _ (some ⟨x.heap.size, 0, none⟩) 1 1 [.int .i64 ((0 : Nat) : Int), .int .u64 (z : Int)] rfl (reads_two x _ _ _) (by simp [Value.oneCell']) (by omega) (by have := hB.size; simp; omega) ?_; intro A2 c2 w2 hown2 hg2 hb2 hc2)
      obtain rfl : out = [] := HO.out
      go_roundw
      case rel => exact ⟨0 + 1, m + 1, ([] : List (Int × Nat)) ++ [(((0 : Nat) : Int), z)], A2, c2, by omega, by go_num, rfl, by simp [hml], by omega, fun h => absurd h (by omega), fun _ => ⟨z, HZ.out, md_first HZ.out⟩, by rw [rnC_append]; exact hown2, (hB.alloc hB.size _).trans hb2⟩
      case measure => simp [intOf]; omega

    obtain ⟨p, hp, hq⟩ := H1.out (by omega)
    obtain ⟨ad2, y, hA2, _, hy, d0, _⟩ := (hr.mv hB).at_ (k := j) (by omega)
    rw [hA] at hA2
    injection hA2 with hA2
    subst hA2 hA
    rw [show ad.add (j + 1) = { block := ad.block, off := ad.off + (j + 1) } from by simp [Addr.add]] at c0
    rw [show j + 1 - 1 = j from by omega] at hp
    rw [hp] at hy
    injection hy with hy
    subst hy
    have HQ := Lib.hid hq
    clear hp hq
    have g0 : (((j : Int) + 1) == 0) = false := by rw [beq_eq_false_iff_ne]; omega
    have g1 : decide ((j : Int) + 1 > 0) = true := by rw [decide_eq_true_eq]; omega
    have i0 : (0 : Int) ≤ (j : Int) + 1 := by omega
    have i1 : (j : Int) + 1 < (n : Int) := by omega
    have i2 : (j : Int) < (n : Int) := by omega
    have i3 : (0 : Int) ≤ (j : Int) := by omega
    by_cases hne : z = p
    · subst hne
      have HN := Lib.hid (md_same HQ.out HZ.out rfl)
      go_wp2_with fail
      go_quiet (fail)
      replace hown := own_call hown (below_drewN (Below.refl _ wr) nq)
      replace hB := below_drewN hB nq
      replace c0 : (wr.drewN nq).cell? _ = _ := c0
      replace d0 : (wr.drewN nq).cell? _ = _ := d0
      generalize wr.drewN nq = x at *
      go_wp2_with fail
      go_roundw
      case rel => exact ⟨(j + 1) + 1, m, out, A1, c1, by omega, by go_num, rfl, hml, by omega, fun h => absurd h (by omega), fun _ => ⟨z, HZ.out, HN.out⟩, hown, hB⟩
      case measure => simp [intOf]; omega

    · have HN := Lib.hid (md_diff HQ.out HZ.out hne)
      have dz : ((z : Int) == (p : Int)) = false := by rw [beq_eq_false_iff_ne]; omega
      go_wp2_with fail
      go_quiet (fail)
      replace hown := own_call hown (below_drewN (Below.refl _ wr) nq)
      replace hB := below_drewN hB nq
      replace c0 : (wr.drewN nq).cell? _ = _ := c0
      replace d0 : (wr.drewN nq).cell? _ = _ := d0
      generalize wr.drewN nq = x at *
      go_wp2_with (at_builtin; refine wpList_app rfl (.tmp 32) (.tmp 39) _ rfl slR w.heap.size _ m (rnC out) rfl (own_call hown (Ext.al _ _)) _ (some ⟨x.heap.size, 0, none⟩) 1 1 [.int .i64 (((j + 1) : Nat) : Int), .int .u64 (z : Int)] rfl (reads_two x _ _ _) (by simp [Value.oneCell']) (by omega) (by have := hB.size; simp; omega) ?_; intro A2 c2 w2 hown2 hg2 hb2 hc2)
      go_roundw
      case rel => exact ⟨(j + 1) + 1, m + 1, out ++ [((((j + 1) : Nat) : Int), z)], A2, c2, by omega, by go_num, rfl, by simp [hml], by omega, fun h => absurd h (by omega), fun _ => ⟨z, HZ.out, HN.out⟩, by rw [rnC_append]; exact hown2, (hB.alloc hB.size _).trans hb2⟩
      case measure => simp [intOf]; omega

end Go.Proofs.Ytldaijkcmnnjpaa
