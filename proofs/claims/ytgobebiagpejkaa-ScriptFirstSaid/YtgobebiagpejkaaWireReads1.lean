/- Contracts and laws of another chapter that this one leans on. Each states its conditions. -/
import Derived.Test.YtgobebiagpejkaaChecked
import Derived.Test.YtgobebiagpejkaaMem
import Derived.Test.YtgobebiagpejkaaSlice
import Derived.Test.YtgobebiagpejkaaArr
import Derived.Test.YtgobebiagpejkaaRegion
import Derived.Test.YtgobebiagpejkaaRet
import Derived.Test.YtgobebiagpejkaaRbb
import Derived.Test.YtgobebiagpejkaaWireReads0
namespace Go.Proofs.Ytgobebiagpejkaa
open Go.RowKit Wire
set_option linter.unusedVariables false

set_option maxRecDepth 100000 in
set_option maxHeartbeats 1600000 in
theorem reunvary_any (A : Option Addr) (n c : Nat) (l : List UInt8) (a : Int) (most : Nat) (w : World) (hr : Rb w A n l) (hn : n ≤ 9223372036854775807) (hm : most < 18446744073709551616) (ha : -9223372036854775808 ≤ a ∧ a ≤ 9223372036854775807) :
    Calls Try.prog 41 #[cur A n c a, .int .u64 (most : Int)] w fun e w' => e = .returned (.tuple #[uvC A n c l a most, .int .u64 (uvN l a most : Nat), .int .i64 (uvE l a most)]) ∧ Below w.heap.size w w' := by
  have HL := Lib.hid hr.len8
  have HR := Lib.hid hr
  clear hr
  have hB := ((Below.refl w.heap.size w).alloc (Nat.le_refl _) (.cells #[.slice A n c, .int .i64 a] 68)).alloc (by simp) (.cells #[.slice none 0 0, .int .i64 0] 68)
  have hk := (Blk.new w 68 #[.slice A n c, .int .i64 a]).alloc (.cells #[.slice none 0 0, .int .i64 0] 68)
  have hz := Blk.new (w.alloc (.cells #[.slice A n c, .int .i64 a] 68)) 68 #[.slice none 0 0, .int .i64 0]
  rw [alloc_size] at hz

  cases hck : ckB n a
  · have HC := Lib.hid (show ckE n a = 8 from by simp [ckE, hck])
    have HE := Lib.hid (show uvE l a most = 8 from by simp [uvE, HL.out, hck])
    have HV := Lib.hid (uv_bad A n c HE.out (by decide))
    clear hck
    go_enter Try.func41, Try.ntmps41
    go_wp2_with fail
    refine (recheck_any A n c a _).mono ?_
    rintro e w1 ⟨rfl, b1⟩

    rw [HC.out]
    have hz1 := hz.below b1 hz.lt
    have hB1 := hB.trans (b1.mono hB.size)
    have z1_0 : w1.cell? ⟨w.heap.size + 1, 0, none⟩ = some (.slice none 0 0) := (hz1.cell 0).trans rfl
    have z1_1 : w1.cell? ⟨w.heap.size + 1, 1, none⟩ = some (.int .i64 0) := (hz1.cell 1).trans rfl
    have z1_f0 := hz1.frozen 0
    have z1_f1 := hz1.frozen 1
    have hk1 := hk.below b1 hk.lt
    have k1_0 : w1.cell? ⟨w.heap.size, 0, none⟩ = some (.slice A n c) := (hk1.cell 0).trans rfl
    have k1_1 : w1.cell? ⟨w.heap.size, 1, none⟩ = some (.int .i64 a) := (hk1.cell 1).trans rfl

    go_wp2_with fail
    refine ret_c2 rfl curT rfl (by repeat (first | exact hz1 | apply Blk.set_ | refine Blk.far ?_ (by simp <;> omega) _ | apply Blk.alloc | apply Blk.drew)) (by rfl) ?_
    exact ⟨by rw [HV.out.1, HV.out.2, HE.out]; rfl, (by have hs_ := hB1.size; repeat (first | exact hB1 | refine Below.setCell ?_ (by simp <;> omega) _ | refine Below.alloc ?_ (by simp <;> omega) _ | refine Below.drew ?_))⟩

  · obtain ⟨h1, h2, h3⟩ := ck_ok hck
    have HC := Lib.hid (show ckE n a = 0 from by simp [ckE, hck])
    have HE := Lib.hid (show uvE l a most = (if rdE l a ≠ 0 then rdE l a else if most < (uvR l a).2.1 then 4 else 0) from by unfold uvE rdE; rw [if_pos (by rw [HL.out]; exact hck)])
    obtain ⟨k, rfl⟩ : ∃ k : Nat, a = (k : Int) := ⟨a.toNat, by omega⟩
    clear hck
    obtain ⟨u0, a0, c0, i0, hu⟩ : ∃ u0 a0 c0 i0, rdC A n c l (k : Int) = cur u0 a0 c0 i0 := by unfold rdC; split <;> exact ⟨_, _, _, _, rfl⟩
    have HU := Lib.hid hu
    have HN := Lib.hid (show rdN l (k : Int) < 18446744073709551616 from by
      unfold rdN; split
      · rename_i h; exact (uvR_le h).1
      · omega)
    go_enter Try.func41, Try.ntmps41
    go_wp2_with fail
    refine (recheck_any A n c (k : Int) _).mono ?_
    rintro e w1 ⟨rfl, b1⟩

    rw [HC.out]
    have hz1 := hz.below b1 hz.lt
    have hB1 := hB.trans (b1.mono hB.size)
    have z1_0 : w1.cell? ⟨w.heap.size + 1, 0, none⟩ = some (.slice none 0 0) := (hz1.cell 0).trans rfl
    have z1_1 : w1.cell? ⟨w.heap.size + 1, 1, none⟩ = some (.int .i64 0) := (hz1.cell 1).trans rfl
    have z1_f0 := hz1.frozen 0
    have z1_f1 := hz1.frozen 1
    have hk1 := hk.below b1 hk.lt
    have k1_0 : w1.cell? ⟨w.heap.size, 0, none⟩ = some (.slice A n c) := (hk1.cell 0).trans rfl
    have k1_1 : w1.cell? ⟨w.heap.size, 1, none⟩ = some (.int .i64 (k : Int)) := (hk1.cell 1).trans rfl

    go_wp2_with fail
    refine (read_any A n c l k _ ((HR.out.mv hB).mv b1) (by omega) (by omega)).mono ?_
    rintro e w2 ⟨rfl, b2⟩

    rw [HU.out]
    clear z1_0 z1_1 z1_f0 z1_f1 k1_0 k1_1
    have hz2 := hz1.below b2 hz1.lt
    have hB2 := hB1.trans (b2.mono hB1.size)
    have z2_0 : w2.cell? ⟨w.heap.size + 1, 0, none⟩ = some (.slice none 0 0) := (hz2.cell 0).trans rfl
    have z2_1 : w2.cell? ⟨w.heap.size + 1, 1, none⟩ = some (.int .i64 0) := (hz2.cell 1).trans rfl
    have z2_f0 := hz2.frozen 0
    have z2_f1 := hz2.frozen 1

    have hz3 := hz2.alloc (.cells #[.slice u0 a0 c0, .int .i64 i0] 68)
    have hB3 := hB2.alloc hB2.size (.cells #[.slice u0 a0 c0, .int .i64 i0] 68)
    have z3_0 : (w2.alloc (.cells #[.slice u0 a0 c0, .int .i64 i0] 68)).cell? ⟨w.heap.size + 1, 0, none⟩ = some (.slice none 0 0) := (hz3.cell 0).trans rfl
    have z3_1 : (w2.alloc (.cells #[.slice u0 a0 c0, .int .i64 i0] 68)).cell? ⟨w.heap.size + 1, 1, none⟩ = some (.int .i64 0) := (hz3.cell 1).trans rfl
    have z3_f0 := hz3.frozen 0
    have z3_f1 := hz3.frozen 1

    have hn2 := HN.out
    by_cases hr0 : rdE l (k : Int) = 0
    · have HN0 := Lib.hid (show rdN l (k : Int) = (uvR l (k : Int)).2.1 from by simp [rdN, hr0])
      have HU2 := Lib.hid (show rdC A n c l (k : Int) = cur A n c ((k : Int) + (uvR l (k : Int)).2.2) from by simp [rdC, hr0])
      have he : uvE l (k : Int) most = if most < rdN l (k : Int) then 4 else 0 := by rw [HE.out, HN0.out, hr0]; simp
      have HE2 := Lib.hid he
      have HZ := Lib.hid hr0
      have HUN := Lib.hid (fun h : uvE l (k : Int) most = 0 => show uvN l (k : Int) most = rdN l (k : Int) from by rw [HN0.out]; simp [uvN, h])
      have HUC := Lib.hid (fun h : uvE l (k : Int) most = 0 => show uvC A n c l (k : Int) most = cur u0 a0 c0 i0 from by rw [← HU.out, HU2.out]; simp [uvC, h])
      have HUB := Lib.hid (fun h : uvE l (k : Int) most = 4 => uv_bad A n c h (by decide))
      clear he hr0 hu
      rw [HZ.out]
      generalize rdN l (k : Int) = v at *
      by_cases hm : most < v
      · have HE3 := Lib.hid (show uvE l (k : Int) most = 4 from by rw [HE2.out, if_pos hm])
        have HV := Lib.hid (HUB.out HE3.out)
        go_wp2_with fail
        refine ret_c2 rfl curT rfl (by repeat (first | exact hz3 | apply Blk.set_ | refine Blk.far ?_ (by simp <;> omega) _ | apply Blk.alloc | apply Blk.drew)) (by rfl) ?_
        exact ⟨by rw [HV.out.1, HV.out.2, HE3.out]; rfl, (by have hs_ := hB3.size; repeat (first | exact hB3 | refine Below.setCell ?_ (by simp <;> omega) _ | refine Below.alloc ?_ (by simp <;> omega) _ | refine Below.drew ?_))⟩

      · have HE3 := Lib.hid (show uvE l (k : Int) most = 0 from by rw [HE2.out, if_neg hm])
        have HV := Lib.hid (And.intro (HUN.out HE3.out) (HUC.out HE3.out))
        go_wp2_with fail
        refine ret_c2 rfl curT rfl (by repeat (first | exact hz3 | apply Blk.set_ | refine Blk.far ?_ (by simp <;> omega) _ | apply Blk.alloc | apply Blk.drew)) (by rfl) ?_
        exact ⟨by rw [HV.out.1, HV.out.2, HE3.out]; rfl, (by have hs_ := hB3.size; repeat (first | exact hB3 | refine Below.setCell ?_ (by simp <;> omega) _ | refine Below.alloc ?_ (by simp <;> omega) _ | refine Below.drew ?_))⟩

    · have HE3 := Lib.hid (show uvE l (k : Int) most = rdE l (k : Int) from by rw [HE.out, if_pos hr0])
      have HV := Lib.hid (uv_bad (l := l) (a := (k : Int)) (most := most) A n c rfl (by rw [HE3.out]; exact hr0))
      clear hu
      have hrb : (rdE l (k : Int) == 0) = false := by rw [beq_eq_false_iff_ne]; exact hr0
      generalize rdE l (k : Int) = e0 at *
      generalize rdN l (k : Int) = v at *
      clear HE
      go_wp2_with fail
      refine ret_c2 rfl curT rfl (by repeat (first | exact hz3 | apply Blk.set_ | refine Blk.far ?_ (by simp <;> omega) _ | apply Blk.alloc | apply Blk.drew)) (by rfl) ?_
      exact ⟨by rw [HV.out.1, HV.out.2, HE3.out]; rfl, (by have hs_ := hB3.size; repeat (first | exact hB3 | refine Below.setCell ?_ (by simp <;> omega) _ | refine Below.alloc ?_ (by simp <;> omega) _ | refine Below.drew ?_))⟩
end Go.Proofs.Ytgobebiagpejkaa
