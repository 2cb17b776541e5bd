/- Contracts of the reading side, behind Read: the reference's Unvary, Unsigned, Unfixed, Untext, and wire.fine, Unfixed. Each states its conditions. -/
import Derived.Test.YtnonikeolpokkaaWireReads0
namespace Go.Proofs.Ytnonikeolpokkaa
open Go.RowKit Wire
set_option linter.unusedVariables false

set_option maxRecDepth 100000 in
set_option maxHeartbeats 1600000 in
theorem reunvary_any (A : Option Addr) (n c : Nat) (l : List UInt8) (a : Int) (most : Nat) (w : World) (hr : Rb w A n l) (hn : n ≤ 9223372036854775807) (hm : most < 18446744073709551616) (ha : -9223372036854775808 ≤ a ∧ a ≤ 9223372036854775807) :
    Calls Try.prog 31 #[cur A n c a, .int .u64 (most : Int)] w fun e w' => e = .returned (.tuple #[uvC A n c l a most, .int .u64 (uvN l a most : Nat), .int .i64 (uvE l a most)]) ∧ Below w.heap.size w w' := by
  have HL := Lib.hid hr.len8
  have HR := Lib.hid hr
  clear hr
  have hB := ((Below.refl w.heap.size w).alloc (Nat.le_refl _) (.cells #[.slice A n c, .int .i64 a] 33)).alloc (by simp) (.cells #[.slice none 0 0, .int .i64 0] 33)
  have hk := (Blk.new w 33 #[.slice A n c, .int .i64 a]).alloc (.cells #[.slice none 0 0, .int .i64 0] 33)
  have hz := Blk.new (w.alloc (.cells #[.slice A n c, .int .i64 a] 33)) 33 #[.slice none 0 0, .int .i64 0]
  rw [alloc_size] at hz

  cases hck : ckB n a
  · have HC := Lib.hid (show ckE n a = 8 from by simp [ckE, hck])
    have HE := Lib.hid (show uvE l a most = 8 from by simp [uvE, HL.out, hck])
    have HV := Lib.hid (uv_bad A n c HE.out (by decide))
    clear hck
    go_enter Try.func31, Try.ntmps31
    go_wp2_with fail
    refine (recheck_any A n c a _).mono ?_
    rintro e w1 ⟨rfl, b1⟩

    rw [HC.out]
    have hz1 := hz.below b1 hz.lt
    have hB1 := hB.trans (b1.mono hB.size)
    have z1_0 : w1.cell? ⟨w.heap.size + 1, 0, none⟩ = some (.slice none 0 0) := (hz1.cell 0).trans rfl
    have z1_1 : w1.cell? ⟨w.heap.size + 1, 1, none⟩ = some (.int .i64 0) := (hz1.cell 1).trans rfl
    have z1_f0 := hz1.frozen 0
    have z1_f1 := hz1.frozen 1
    have hk1 := hk.below b1 hk.lt
    have k1_0 : w1.cell? ⟨w.heap.size, 0, none⟩ = some (.slice A n c) := (hk1.cell 0).trans rfl
    have k1_1 : w1.cell? ⟨w.heap.size, 1, none⟩ = some (.int .i64 a) := (hk1.cell 1).trans rfl

    go_wp2_with fail
    refine ret_c2 rfl curT rfl (by repeat (first | exact hz1 | apply Blk.set_ | refine Blk.far ?_ (by simp <;> omega) _ | apply Blk.alloc | apply Blk.drew)) (by rfl) ?_
    exact ⟨by rw [HV.out.1, HV.out.2, HE.out]; rfl, (by have hs_ := hB1.size; repeat (first | exact hB1 | refine Below.setCell ?_ (by simp <;> omega) _ | refine Below.alloc ?_ (by simp <;> omega) _ | refine Below.drew ?_))⟩

  · obtain ⟨h1, h2, h3⟩ := ck_ok hck
    have HC := Lib.hid (show ckE n a = 0 from by simp [ckE, hck])
    have HE := Lib.hid (show uvE l a most = (if rdE l a ≠ 0 then rdE l a else if most < (uvR l a).2.1 then 4 else 0) from by unfold uvE rdE; rw [if_pos (by rw [HL.out]; exact hck)])
    obtain ⟨k, rfl⟩ : ∃ k : Nat, a = (k : Int) := ⟨a.toNat, by omega⟩
    clear hck
    obtain ⟨u0, a0, c0, i0, hu⟩ : ∃ u0 a0 c0 i0, rdC A n c l (k : Int) = cur u0 a0 c0 i0 := by unfold rdC; split <;> exact ⟨_, _, _, _, rfl⟩
    have HU := Lib.hid hu
    have HN := Lib.hid (show rdN l (k : Int) < 18446744073709551616 from by
      unfold rdN; split
      · rename_i h; exact (uvR_le h).1
      · omega)
    go_enter Try.func31, Try.ntmps31
    go_wp2_with fail
    refine (recheck_any A n c (k : Int) _).mono ?_
    rintro e w1 ⟨rfl, b1⟩

    rw [HC.out]
    have hz1 := hz.below b1 hz.lt
    have hB1 := hB.trans (b1.mono hB.size)
    have z1_0 : w1.cell? ⟨w.heap.size + 1, 0, none⟩ = some (.slice none 0 0) := (hz1.cell 0).trans rfl
    have z1_1 : w1.cell? ⟨w.heap.size + 1, 1, none⟩ = some (.int .i64 0) := (hz1.cell 1).trans rfl
    have z1_f0 := hz1.frozen 0
    have z1_f1 := hz1.frozen 1
    have hk1 := hk.below b1 hk.lt
    have k1_0 : w1.cell? ⟨w.heap.size, 0, none⟩ = some (.slice A n c) := (hk1.cell 0).trans rfl
    have k1_1 : w1.cell? ⟨w.heap.size, 1, none⟩ = some (.int .i64 (k : Int)) := (hk1.cell 1).trans rfl

    go_wp2_with fail
    refine (read_any A n c l k _ ((HR.out.mv hB).mv b1) (by omega) (by omega)).mono ?_
    rintro e w2 ⟨rfl, b2⟩

    rw [HU.out]
    clear z1_0 z1_1 z1_f0 z1_f1 k1_0 k1_1
    have hz2 := hz1.below b2 hz1.lt
    have hB2 := hB1.trans (b2.mono hB1.size)
    have z2_0 : w2.cell? ⟨w.heap.size + 1, 0, none⟩ = some (.slice none 0 0) := (hz2.cell 0).trans rfl
    have z2_1 : w2.cell? ⟨w.heap.size + 1, 1, none⟩ = some (.int .i64 0) := (hz2.cell 1).trans rfl
    have z2_f0 := hz2.frozen 0
    have z2_f1 := hz2.frozen 1

    have hz3 := hz2.alloc (.cells #[.slice u0 a0 c0, .int .i64 i0] 33)
    have hB3 := hB2.alloc hB2.size (.cells #[.slice u0 a0 c0, .int .i64 i0] 33)
    have z3_0 : (w2.alloc (.cells #[.slice u0 a0 c0, .int .i64 i0] 33)).cell? ⟨w.heap.size + 1, 0, none⟩ = some (.slice none 0 0) := (hz3.cell 0).trans rfl
    have z3_1 : (w2.alloc (.cells #[.slice u0 a0 c0, .int .i64 i0] 33)).cell? ⟨w.heap.size + 1, 1, none⟩ = some (.int .i64 0) := (hz3.cell 1).trans rfl
    have z3_f0 := hz3.frozen 0
    have z3_f1 := hz3.frozen 1

    have hn2 := HN.out
    by_cases hr0 : rdE l (k : Int) = 0
    · have HN0 := Lib.hid (show rdN l (k : Int) = (uvR l (k : Int)).2.1 from by simp [rdN, hr0])
      have HU2 := Lib.hid (show rdC A n c l (k : Int) = cur A n c ((k : Int) + (uvR l (k : Int)).2.2) from by simp [rdC, hr0])
      have he : uvE l (k : Int) most = if most < rdN l (k : Int) then 4 else 0 := by rw [HE.out, HN0.out, hr0]; simp
      have HE2 := Lib.hid he
      have HZ := Lib.hid hr0
      have HUN := Lib.hid (fun h : uvE l (k : Int) most = 0 => show uvN l (k : Int) most = rdN l (k : Int) from by rw [HN0.out]; simp [uvN, h])
      have HUC := Lib.hid (fun h : uvE l (k : Int) most = 0 => show uvC A n c l (k : Int) most = cur u0 a0 c0 i0 from by rw [← HU.out, HU2.out]; simp [uvC, h])
      have HUB := Lib.hid (fun h : uvE l (k : Int) most = 4 => uv_bad A n c h (by decide))
      clear he hr0 hu
      rw [HZ.out]
      generalize rdN l (k : Int) = v at *
      by_cases hm : most < v
      · have HE3 := Lib.hid (show uvE l (k : Int) most = 4 from by rw [HE2.out, if_pos hm])
        have HV := Lib.hid (HUB.out HE3.out)
        go_wp2_with fail
        refine ret_c2 rfl curT rfl (by repeat (first | exact hz3 | apply Blk.set_ | refine Blk.far ?_ (by simp <;> omega) _ | apply Blk.alloc | apply Blk.drew)) (by rfl) ?_
        exact ⟨by rw [HV.out.1, HV.out.2, HE3.out]; rfl, (by have hs_ := hB3.size; repeat (first | exact hB3 | refine Below.setCell ?_ (by simp <;> omega) _ | refine Below.alloc ?_ (by simp <;> omega) _ | refine Below.drew ?_))⟩

      · have HE3 := Lib.hid (show uvE l (k : Int) most = 0 from by rw [HE2.out, if_neg hm])
        have HV := Lib.hid (And.intro (HUN.out HE3.out) (HUC.out HE3.out))
        go_wp2_with fail
        refine ret_c2 rfl curT rfl (by repeat (first | exact hz3 | apply Blk.set_ | refine Blk.far ?_ (by simp <;> omega) _ | apply Blk.alloc | apply Blk.drew)) (by rfl) ?_
        exact ⟨by rw [HV.out.1, HV.out.2, HE3.out]; rfl, (by have hs_ := hB3.size; repeat (first | exact hB3 | refine Below.setCell ?_ (by simp <;> omega) _ | refine Below.alloc ?_ (by simp <;> omega) _ | refine Below.drew ?_))⟩

    · have HE3 := Lib.hid (show uvE l (k : Int) most = rdE l (k : Int) from by rw [HE.out, if_pos hr0])
      have HV := Lib.hid (uv_bad (l := l) (a := (k : Int)) (most := most) A n c rfl (by rw [HE3.out]; exact hr0))
      clear hu
      have hrb : (rdE l (k : Int) == 0) = false := by rw [beq_eq_false_iff_ne]; exact hr0
      generalize rdE l (k : Int) = e0 at *
      generalize rdN l (k : Int) = v at *
      clear HE
      go_wp2_with fail
      refine ret_c2 rfl curT rfl (by repeat (first | exact hz3 | apply Blk.set_ | refine Blk.far ?_ (by simp <;> omega) _ | apply Blk.alloc | apply Blk.drew)) (by rfl) ?_
      exact ⟨by rw [HV.out.1, HV.out.2, HE3.out]; rfl, (by have hs_ := hB3.size; repeat (first | exact hB3 | refine Below.setCell ?_ (by simp <;> omega) _ | refine Below.alloc ?_ (by simp <;> omega) _ | refine Below.drew ?_))⟩

set_option maxRecDepth 100000 in
set_option maxHeartbeats 1600000 in
theorem reunsigned_any (A : Option Addr) (n c : Nat) (l : List UInt8) (a : Int) (w : World) (hr : Rb w A n l) (hn : n ≤ 9223372036854775807) (ha : -9223372036854775808 ≤ a ∧ a ≤ 9223372036854775807) :
    Calls Try.prog 33 #[cur A n c a] w fun e w' => e = .returned (.tuple #[uvC A n c l a 18446744073709551615, .int .i64 (hlf (uvN l a 18446744073709551615)), .int .i64 (uvE l a 18446744073709551615)]) ∧ Below w.heap.size w w' := by
  have HL := Lib.hid hr.len8
  have HR := Lib.hid hr
  clear hr
  have hB := ((Below.refl w.heap.size w).alloc (Nat.le_refl _) (.cells #[.slice A n c, .int .i64 a] 33)).alloc (by simp) (.cells #[.slice none 0 0, .int .i64 0] 33)
  have hk := (Blk.new w 33 #[.slice A n c, .int .i64 a]).alloc (.cells #[.slice none 0 0, .int .i64 0] 33)
  have hz := Blk.new (w.alloc (.cells #[.slice A n c, .int .i64 a] 33)) 33 #[.slice none 0 0, .int .i64 0]
  rw [alloc_size] at hz

  have HUV := Lib.hid (fun W (h : Rb W A n l) => reunvary_any A n c l a 18446744073709551615 W h hn (by omega) ha)
  have HN := Lib.hid (uvN_lt l a 18446744073709551615)
  have HZ := Lib.hid (fun h : uvE l a 18446744073709551615 ≠ 0 => uv_bad (l := l) (a := a) (most := 18446744073709551615) A n c rfl h)
  obtain ⟨u0, a0, c0, i0, hu⟩ : ∃ u0 a0 c0 i0, uvC A n c l a 18446744073709551615 = cur u0 a0 c0 i0 := by unfold uvC; split <;> exact ⟨_, _, _, _, rfl⟩
  generalize uvC A n c l a 18446744073709551615 = uu at *
  subst hu
  generalize uvN l a 18446744073709551615 = v at *
  generalize uvE l a 18446744073709551615 = e0 at *
  go_enter Try.func33, Try.ntmps33
  go_wp2_with fail
  refine (HUV.out _ (HR.out.mv hB)).mono ?_
  rintro e w1 ⟨rfl, b1⟩
  have hz1 := hz.below b1 hz.lt
  have hB1 := hB.trans (b1.mono hB.size)
  have z1_0 : w1.cell? ⟨w.heap.size + 1, 0, none⟩ = some (.slice none 0 0) := (hz1.cell 0).trans rfl
  have z1_1 : w1.cell? ⟨w.heap.size + 1, 1, none⟩ = some (.int .i64 0) := (hz1.cell 1).trans rfl
  have z1_f0 := hz1.frozen 0
  have z1_f1 := hz1.frozen 1

  have hz3 := hz1.alloc (.cells #[.slice u0 a0 c0, .int .i64 i0] 33)
  have hB3 := hB1.alloc hB1.size (.cells #[.slice u0 a0 c0, .int .i64 i0] 33)
  have hq := Blk.new w1 33 #[.slice u0 a0 c0, .int .i64 i0]
  have z3_0 : (w1.alloc (.cells #[.slice u0 a0 c0, .int .i64 i0] 33)).cell? ⟨w.heap.size + 1, 0, none⟩ = some (.slice none 0 0) := (hz3.cell 0).trans rfl
  have z3_1 : (w1.alloc (.cells #[.slice u0 a0 c0, .int .i64 i0] 33)).cell? ⟨w.heap.size + 1, 1, none⟩ = some (.int .i64 0) := (hz3.cell 1).trans rfl
  have z3_f0 := hz3.frozen 0
  have z3_f1 := hz3.frozen 1
  by_cases h0 : e0 = 0
  · have HX := Lib.hid h0
    have hv := HN.out
    subst h0
    go_wp2_with fail
    refine exr_start (w.heap.size + 1) (by kernel_rfl) (by repeat (first | exact calm_body | apply calm_then | apply calm_block)) (fun hQ => ?_)

    have hz4 := hz3.drew
    have hq4 := hq.drew
    have hB4 := hB3.drew
    have hlt := hq4.lt
    have hle := hB1.size
    have hgl := hz1.lt
    generalize (w1.alloc (.cells #[.slice u0 a0 c0, .int .i64 i0] 33)).drew = w4 at *
    generalize w1.heap.size = p5 at *
    have X0 : ∀ W, ExR (w.heap.size + 1) w4 W → W.cell? ⟨p5, 0, none⟩ = some (.slice u0 a0 c0) := fun W h => ((hq4.exr h (by omega)).cell 0).trans rfl
    have X1 : ∀ W, ExR (w.heap.size + 1) w4 W → W.cell? ⟨p5, 1, none⟩ = some (.int .i64 i0) := fun W h => ((hq4.exr h (by omega)).cell 1).trans rfl
    have z4_0 : w4.cell? ⟨w.heap.size + 1, 0, none⟩ = some (.slice none 0 0) := (hz4.cell 0).trans rfl
    have z4_1 : w4.cell? ⟨w.heap.size + 1, 1, none⟩ = some (.int .i64 0) := (hz4.cell 1).trans rfl
    have z4_f0 := hz4.frozen 0
    have z4_f1 := hz4.frozen 1

    refine exr_take (i := 0) (oi := ?oia0) (v := ?va0) ?hia0 (by kernel_rfl) (by kernel_rfl) (by kernel_rfl) hQ ?hwa0 ?hya0 ?resta0
    case hia0 => simp only [List.getElem?_toArray, List.getElem?_cons_zero]; rfl
    case hwa0 => rfl
    case hya0 => intro W hW; go_simp; with_reducible rfl
    simp only [Act.put, List.setIfInBounds_toArray, List.set_cons_zero, List.set_cons_succ]
    refine exr_take (i := 1) (oi := ?oia1) (v := ?va1) ?hia1 (by kernel_rfl) (by kernel_rfl) (by kernel_rfl) hQ ?hwa1 ?hya1 ?resta1
    case hia1 => simp only [List.getElem?_toArray, List.getElem?_cons_zero, List.getElem?_cons_succ]; rfl
    case hwa1 => rfl
    case hya1 => intro W hW; go_simp; with_reducible rfl
    simp only [Act.put, List.setIfInBounds_toArray, List.set_cons_zero, List.set_cons_succ]
    refine exr_step (i := 2) (oi := ?oia2) (by kernel_rfl) ?hia2 ?hwa2 (fun K hK => ?_)
    case hia2 => simp only [List.getElem?_toArray, List.getElem?_cons_zero, List.getElem?_cons_succ]; rfl
    case hwa2 => rfl
    go_simp
    refine (half_any v hv _).mono ?_; rintro e w7 ⟨rfl, rfl⟩; refine hK _ _ (ExR.refl _ _) ?_
    try simp only [Act.put, List.setIfInBounds_toArray, List.set_cons_zero, List.set_cons_succ]
    refine exr_step (i := 3) (oi := ?oia3) (by kernel_rfl) ?hia3 ?hwa3 (fun K hK => ?_)
    case hia3 => simp only [List.getElem?_toArray, List.getElem?_cons_zero, List.getElem?_cons_succ]; rfl
    case hwa3 => rfl
    go_simp
    refine hK _ _ (by repeat (first | exact ExR.refl _ _ | refine ExR.set_ ?_ rfl _)) ?_
    try simp only [Act.put, List.setIfInBounds_toArray, List.set_cons_zero, List.set_cons_succ]
    refine exr_take (i := 4) (oi := ?oia4) (v := ?va4) ?hia4 (by kernel_rfl) (by kernel_rfl) (by kernel_rfl) hQ ?hwa4 ?hya4 ?resta4
    case hia4 => simp only [List.getElem?_toArray, List.getElem?_cons_zero, List.getElem?_cons_succ]; rfl
    case hwa4 => rfl
    case hya4 => intro W hW; go_simp; with_reducible rfl
    simp only [Act.put, List.setIfInBounds_toArray, List.set_cons_zero, List.set_cons_succ]
    refine exr_take (i := 5) (oi := ?oia5) (v := ?va5) ?hia5 (by kernel_rfl) (by kernel_rfl) (by kernel_rfl) hQ ?hwa5 ?hya5 ?resta5
    case hia5 => simp only [List.getElem?_toArray, List.getElem?_cons_zero, List.getElem?_cons_succ]; rfl
    case hwa5 => rfl
    case hya5 => intro W hW; go_simp; with_reducible rfl
    simp only [Act.put, List.setIfInBounds_toArray, List.set_cons_zero, List.set_cons_succ]
    refine wpAnyH_done (by kernel_rfl) ?_ _

    go_wp2_with fail
    refine ret_c2 rfl curT rfl (by repeat (first | exact hz4 | apply Blk.set_ | refine Blk.far ?_ (by simp <;> omega) _ | apply Blk.alloc | apply Blk.drew)) (by rfl) ?_
    exact ⟨rfl, (by have hs_ := hB4.size; repeat (first | exact hB4 | refine Below.setCell ?_ (by simp <;> omega) _ | refine Below.alloc ?_ (by simp <;> omega) _ | refine Below.drew ?_))⟩

  · have HZ0 := Lib.hid (HZ.out h0)
    have hb0 : (e0 == 0) = false := by rw [beq_eq_false_iff_ne]; exact h0
    have HZ1 := Lib.hid HZ0.out.2
    have hv0 : v = 0 := HZ0.out.1
    subst hv0
    have hcu : (Value.agg #[.slice u0 a0 c0, .int .i64 i0]) = .agg #[.slice none 0 0, .int .i64 0] := HZ1.out
    injection hcu with hcu
    simp at hcu
    obtain ⟨⟨rfl, rfl, rfl⟩, rfl⟩ := hcu
    go_wp2_with fail
    refine ret_c2 rfl curT rfl (by repeat (first | exact hz3 | apply Blk.set_ | refine Blk.far ?_ (by simp <;> omega) _ | apply Blk.alloc | apply Blk.drew)) (by rfl) ?_
    exact ⟨rfl, (by have hs_ := hB3.size; repeat (first | exact hB3 | refine Below.setCell ?_ (by simp <;> omega) _ | refine Below.alloc ?_ (by simp <;> omega) _ | refine Below.drew ?_))⟩

end Go.Proofs.Ytnonikeolpokkaa
