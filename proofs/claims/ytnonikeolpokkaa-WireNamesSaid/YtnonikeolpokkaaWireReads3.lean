/- The contract of the reference's Untext. It states its conditions. -/
import Derived.Test.YtnonikeolpokkaaWireReads2
namespace Go.Proofs.Ytnonikeolpokkaa
open Go.RowKit Wire
set_option linter.unusedVariables false

set_option maxRecDepth 100000 in
set_option maxHeartbeats 1600000 in
theorem reuntext_any (A : Option Addr) (n c : Nat) (l : List UInt8) (a mo : Int) (w : World) (hr : Rb w A n l) (hn : n ≤ 9223372036854775807) (hnc : n ≤ c) (ha : -9223372036854775808 ≤ a ∧ a ≤ 9223372036854775807) (hmo : -9223372036854775808 ≤ mo ∧ mo ≤ 9223372036854775807) :
    Calls Try.prog 34 #[cur A n c a, .int .i64 mo] w fun e w' => e = .returned (.tuple #[utC A n c l a mo, .string (utS l a mo), .int .i64 (utE l a mo)]) ∧ Below w.heap.size w w' := by
  have HL := Lib.hid hr.len8
  have HR := Lib.hid hr
  clear hr
  have hB := ((Below.refl w.heap.size w).alloc (Nat.le_refl _) (.cells #[.slice A n c, .int .i64 a] 33)).alloc (by simp) (.cells #[.slice none 0 0, .int .i64 0] 33)
  have hk := (Blk.new w 33 #[.slice A n c, .int .i64 a]).alloc (.cells #[.slice none 0 0, .int .i64 0] 33)
  have hz := Blk.new (w.alloc (.cells #[.slice A n c, .int .i64 a] 33)) 33 #[.slice none 0 0, .int .i64 0]
  rw [alloc_size] at hz

  cases hck : ckB n a
  · have HC := Lib.hid (show ckE n a = 8 from by simp [ckE, hck])
    have HE2 := Lib.hid (show utE l a mo = 8 from by simp [utE, HL.out, hck])
    have HV := Lib.hid (ut_bad A n c HE2.out (by decide))
    clear hck
    go_enter Try.func34, Try.ntmps34
    go_wp2_with fail
    refine (recheck_any A n c a _).mono ?_
    rintro e w1 ⟨rfl, b1⟩

    rw [HC.out]
    have hz1 := hz.below b1 hz.lt
    have hB1 := hB.trans (b1.mono hB.size)
    have z1_0 : w1.cell? ⟨w.heap.size + 1, 0, none⟩ = some (.slice none 0 0) := (hz1.cell 0).trans rfl
    have z1_1 : w1.cell? ⟨w.heap.size + 1, 1, none⟩ = some (.int .i64 0) := (hz1.cell 1).trans rfl
    have z1_f0 := hz1.frozen 0
    have z1_f1 := hz1.frozen 1

    go_wp2_with fail
    refine ret_c2 rfl curT rfl (by repeat (first | exact hz1 | apply Blk.set_ | refine Blk.far ?_ (by simp <;> omega) _ | apply Blk.alloc | apply Blk.drew)) (by rfl) ?_
    exact ⟨by rw [HV.out.1, HV.out.2, HE2.out]; rfl, (by have hs_ := hB1.size; repeat (first | exact hB1 | refine Below.setCell ?_ (by simp <;> omega) _ | refine Below.alloc ?_ (by simp <;> omega) _ | refine Below.drew ?_))⟩

  · obtain ⟨h1, h2, h3⟩ := ck_ok hck
    have HC := Lib.hid (show ckE n a = 0 from by simp [ckE, hck])
    obtain ⟨k, rfl⟩ : ∃ k : Nat, a = (k : Int) := ⟨a.toNat, by omega⟩
    have hcl : ckB l.length (k : Int) = true := by rw [HL.out]; exact hck
    by_cases hmm : mo < 0 ∨ 200000 < mo
    · have HE2 := Lib.hid (show utE l (k : Int) mo = 2 from by unfold utE; rw [if_pos hcl, if_pos hmm])
      have HV := Lib.hid (ut_bad A n c HE2.out (by decide))
      have HMM := Lib.hid hmm
      clear hck hmm hcl
      by_cases hneg : mo < 0
      · have d1 : decide (mo < 0) = true := by simpa using hneg
        go_enter Try.func34, Try.ntmps34
        go_wp2_with fail
        refine (recheck_any A n c (k : Int) _).mono ?_
        rintro e w1 ⟨rfl, b1⟩
        rw [HC.out]
        have hz1 := hz.below b1 hz.lt
        have hB1 := hB.trans (b1.mono hB.size)
        have z1_0 : w1.cell? ⟨w.heap.size + 1, 0, none⟩ = some (.slice none 0 0) := (hz1.cell 0).trans rfl
        have z1_1 : w1.cell? ⟨w.heap.size + 1, 1, none⟩ = some (.int .i64 0) := (hz1.cell 1).trans rfl
        have z1_f0 := hz1.frozen 0
        have z1_f1 := hz1.frozen 1

        go_wp2_with fail
        refine ret_c2 rfl curT rfl (by repeat (first | exact hz1 | apply Blk.set_ | refine Blk.far ?_ (by simp <;> omega) _ | apply Blk.alloc | apply Blk.drew)) (by rfl) ?_
        exact ⟨by rw [HV.out.1, HV.out.2, HE2.out]; rfl, (by have hs_ := hB1.size; repeat (first | exact hB1 | refine Below.setCell ?_ (by simp <;> omega) _ | refine Below.alloc ?_ (by simp <;> omega) _ | refine Below.drew ?_))⟩

      · have d1 : decide (mo < 0) = false := by simpa using hneg
        have d2 : decide ((200000 : Int) < mo) = true := by have := HMM.out; simp; omega
        go_enter Try.func34, Try.ntmps34
        go_wp2_with fail
        refine (recheck_any A n c (k : Int) _).mono ?_
        rintro e w1 ⟨rfl, b1⟩
        rw [HC.out]
        have hz1 := hz.below b1 hz.lt
        have hB1 := hB.trans (b1.mono hB.size)
        have z1_0 : w1.cell? ⟨w.heap.size + 1, 0, none⟩ = some (.slice none 0 0) := (hz1.cell 0).trans rfl
        have z1_1 : w1.cell? ⟨w.heap.size + 1, 1, none⟩ = some (.int .i64 0) := (hz1.cell 1).trans rfl
        have z1_f0 := hz1.frozen 0
        have z1_f1 := hz1.frozen 1

        go_wp2_with fail
        refine ret_c2 rfl curT rfl (by repeat (first | exact hz1 | apply Blk.set_ | refine Blk.far ?_ (by simp <;> omega) _ | apply Blk.alloc | apply Blk.drew)) (by rfl) ?_
        exact ⟨by rw [HV.out.1, HV.out.2, HE2.out]; rfl, (by have hs_ := hB1.size; repeat (first | exact hB1 | refine Below.setCell ?_ (by simp <;> omega) _ | refine Below.alloc ?_ (by simp <;> omega) _ | refine Below.drew ?_))⟩

    · have d1 : decide (mo < 0) = false := by simp; omega
      have d2 : decide ((200000 : Int) < mo) = false := by simp; omega
      obtain ⟨q, rfl⟩ : ∃ q : Nat, mo = (q : Int) := ⟨mo.toNat, by omega⟩
      have hq : q ≤ 200000 := by omega
      have HE := Lib.hid (show utE l (k : Int) (q : Int) = (if uvE l (k : Int) q ≠ 0 then uvE l (k : Int) q else if (l.length : Int) - ((k : Int) + (uvR l (k : Int)).2.2) < (uvR l (k : Int)).2.1 then 24 else 0) from by
        unfold utE; rw [if_pos hcl, if_neg hmm, Int.toNat_natCast])
      clear hck hmm hcl
      have HU := Lib.hid (fun W (h : Rb W A n l) => reunvary_any A n c l (k : Int) q W h hn (by omega) ha)
      by_cases he : uvE l (k : Int) q = 0
      · have HO := Lib.hid (uv_ok A n c he)
        obtain ⟨hu1, hu2, hu3⟩ := uv_zero he
        obtain ⟨hv1, hv2, hv3, hv4⟩ := uvR_le hu2
        rw [Int.toNat_natCast, HL.out] at hv3
        have HE3 := Lib.hid (show utE l (k : Int) (q : Int) = (if (n : Int) - ((k : Int) + (uvR l (k : Int)).2.2) < (uvR l (k : Int)).2.1 then 24 else 0) from by rw [HE.out, if_neg (by simp [he]), HL.out])
        have HT := Lib.hid (fun h => ut_ok (l := l) (a := (k : Int)) (mo := (q : Int)) A n c h)
        have HTB := Lib.hid (fun h => ut_bad (l := l) (a := (k : Int)) (mo := (q : Int)) (e := 24) A n c h (by decide))
        have HE4 := Lib.hid he
        clear hu1 hu2 hv4 he HE hv1
        generalize (uvR l (k : Int)).2.1 = v at *
        generalize (uvR l (k : Int)).2.2 = r at *
        have i0 : (0 : Int) ≤ (k : Int) + r := by omega
        have i9 : (k : Int) + r ≤ n := by omega
        by_cases hsh : (n : Int) - ((k : Int) + r) < v
        · have d3 : decide ((n : Int) - ((k : Int) + r) < (v : Int)) = true := by simpa using hsh
          have HE2 := Lib.hid (show utE l (k : Int) (q : Int) = 24 from by rw [HE3.out, if_pos hsh])
          have HV := Lib.hid (HTB.out HE2.out)
          clear HTB HT HE3
          go_enter Try.func34, Try.ntmps34
          go_wp2_with fail
          refine (recheck_any A n c (k : Int) _).mono ?_
          rintro e w1 ⟨rfl, b1⟩

          rw [HC.out]
          have hz1 := hz.below b1 hz.lt
          have hB1 := hB.trans (b1.mono hB.size)
          have z1_0 : w1.cell? ⟨w.heap.size + 1, 0, none⟩ = some (.slice none 0 0) := (hz1.cell 0).trans rfl
          have z1_1 : w1.cell? ⟨w.heap.size + 1, 1, none⟩ = some (.int .i64 0) := (hz1.cell 1).trans rfl
          have z1_f0 := hz1.frozen 0
          have z1_f1 := hz1.frozen 1
          have hk1 := hk.below b1 hk.lt
          have k1_0 : w1.cell? ⟨w.heap.size, 0, none⟩ = some (.slice A n c) := (hk1.cell 0).trans rfl
          have k1_1 : w1.cell? ⟨w.heap.size, 1, none⟩ = some (.int .i64 (k : Int)) := (hk1.cell 1).trans rfl

          go_wp2_with fail
          refine (HU.out _ ((HR.out.mv hB).mv b1)).mono ?_
          rintro e w2 ⟨rfl, b2⟩

          rw [HO.out.1, HO.out.2, HE4.out]
          clear z1_0 z1_1 z1_f0 z1_f1 k1_0 k1_1
          have hz2 := hz1.below b2 hz1.lt
          have hB2 := hB1.trans (b2.mono hB1.size)
          have z2_0 : w2.cell? ⟨w.heap.size + 1, 0, none⟩ = some (.slice none 0 0) := (hz2.cell 0).trans rfl
          have z2_1 : w2.cell? ⟨w.heap.size + 1, 1, none⟩ = some (.int .i64 0) := (hz2.cell 1).trans rfl
          have z2_f0 := hz2.frozen 0
          have z2_f1 := hz2.frozen 1

          have hz3 := hz2.alloc (.cells #[.slice A n c, .int .i64 ((k : Int) + r)] 33)
          have hB3 := hB2.alloc hB2.size (.cells #[.slice A n c, .int .i64 ((k : Int) + r)] 33)
          have z3_0 : (w2.alloc (.cells #[.slice A n c, .int .i64 ((k : Int) + r)] 33)).cell? ⟨w.heap.size + 1, 0, none⟩ = some (.slice none 0 0) := (hz3.cell 0).trans rfl
          have z3_1 : (w2.alloc (.cells #[.slice A n c, .int .i64 ((k : Int) + r)] 33)).cell? ⟨w.heap.size + 1, 1, none⟩ = some (.int .i64 0) := (hz3.cell 1).trans rfl
          have z3_f0 := hz3.frozen 0
          have z3_f1 := hz3.frozen 1

          go_wp2_with fail
          refine ret_c2 rfl curT rfl (by repeat (first | exact hz3 | apply Blk.set_ | refine Blk.far ?_ (by simp <;> omega) _ | apply Blk.alloc | apply Blk.drew)) (by rfl) ?_
          exact ⟨by rw [HV.out.1, HV.out.2, HE2.out]; rfl, (by have hs_ := hB3.size; repeat (first | exact hB3 | refine Below.setCell ?_ (by simp <;> omega) _ | refine Below.alloc ?_ (by simp <;> omega) _ | refine Below.drew ?_))⟩

        · have d3 : decide ((n : Int) - ((k : Int) + r) < (v : Int)) = false := by simpa using hsh
          have HE2 := Lib.hid (show utE l (k : Int) (q : Int) = 0 from by rw [HE3.out, if_neg hsh])
          have HV := Lib.hid (HT.out HE2.out)
          clear HTB HT HE3
          have i1 : (k : Int) + r ≤ (k : Int) + r + v := by omega
          have i2 : (k : Int) + r + v ≤ (n : Int) := by omega
          have i3 : (k : Int) + r + v ≤ (c : Int) := by omega
          have hkv : k + r + v ≤ n := by omega
          have HS := sl_lh A n c (k + r) v (a := (k : Int) + r) (b := (k : Int) + r + v) (by omega) (by omega) (by omega)
          have HW2 : IntKind.i64.wrap (v : Int) = (v : Int) := by rw [IntKind.wrap_i64]; omega
          have HW1 : IntKind.i64.wrap ((k : Int) + (r : Int) + (v : Int)) = (k : Int) + r + v := by rw [IntKind.wrap_i64]; omega
          go_enter Try.func34, Try.ntmps34
          go_wp2_with fail
          refine (recheck_any A n c (k : Int) _).mono ?_
          rintro e w1 ⟨rfl, b1⟩

          rw [HC.out]
          have hz1 := hz.below b1 hz.lt
          have hB1 := hB.trans (b1.mono hB.size)
          have z1_0 : w1.cell? ⟨w.heap.size + 1, 0, none⟩ = some (.slice none 0 0) := (hz1.cell 0).trans rfl
          have z1_1 : w1.cell? ⟨w.heap.size + 1, 1, none⟩ = some (.int .i64 0) := (hz1.cell 1).trans rfl
          have z1_f0 := hz1.frozen 0
          have z1_f1 := hz1.frozen 1
          have hk1 := hk.below b1 hk.lt
          have k1_0 : w1.cell? ⟨w.heap.size, 0, none⟩ = some (.slice A n c) := (hk1.cell 0).trans rfl
          have k1_1 : w1.cell? ⟨w.heap.size, 1, none⟩ = some (.int .i64 (k : Int)) := (hk1.cell 1).trans rfl

          go_wp2_with fail
          refine (HU.out _ ((HR.out.mv hB).mv b1)).mono ?_
          rintro e w2 ⟨rfl, b2⟩

          rw [HO.out.1, HO.out.2, HE4.out]
          clear z1_0 z1_1 z1_f0 z1_f1 k1_0 k1_1
          have hz2 := hz1.below b2 hz1.lt
          have hB2 := hB1.trans (b2.mono hB1.size)
          have z2_0 : w2.cell? ⟨w.heap.size + 1, 0, none⟩ = some (.slice none 0 0) := (hz2.cell 0).trans rfl
          have z2_1 : w2.cell? ⟨w.heap.size + 1, 1, none⟩ = some (.int .i64 0) := (hz2.cell 1).trans rfl
          have z2_f0 := hz2.frozen 0
          have z2_f1 := hz2.frozen 1

          have hz3 := hz2.alloc (.cells #[.slice A n c, .int .i64 ((k : Int) + r)] 33)
          have hB3 := hB2.alloc hB2.size (.cells #[.slice A n c, .int .i64 ((k : Int) + r)] 33)
          have hq3 := Blk.new w2 33 #[.slice A n c, .int .i64 ((k : Int) + r)]
          have z3_0 : (w2.alloc (.cells #[.slice A n c, .int .i64 ((k : Int) + r)] 33)).cell? ⟨w.heap.size + 1, 0, none⟩ = some (.slice none 0 0) := (hz3.cell 0).trans rfl
          have z3_1 : (w2.alloc (.cells #[.slice A n c, .int .i64 ((k : Int) + r)] 33)).cell? ⟨w.heap.size + 1, 1, none⟩ = some (.int .i64 0) := (hz3.cell 1).trans rfl
          have z3_f0 := hz3.frozen 0
          have z3_f1 := hz3.frozen 1

          go_wp2_with fail
          refine exr_start (w.heap.size + 1) (by kernel_rfl) (by repeat (first | exact calm_body | apply calm_then | apply calm_block)) (fun hQ => ?_)

          have hz4 := hz3.drew
          have hq4 := hq3.drew
          have hB4 := hB3.drew
          have RS := sub_reads (i := k + r) (v := v) (HR.out.below hB4) hkv hnc
          have hgl := hz2.lt
          clear z3_0 z3_1 z3_f0 z3_f1 z2_0 z2_1 z2_f0 z2_f1
          generalize (w2.alloc (.cells #[.slice A n c, .int .i64 ((k : Int) + r)] 33)).drew = w4 at *
          generalize w2.heap.size = p5 at *
          have hle := hB4.size
          have hlt := hq4.lt
          have X0 : ∀ W, ExR (w.heap.size + 1) w4 W → W.cell? ⟨p5, 0, none⟩ = some (.slice A n c) := fun W h => ((hq4.exr h (by omega)).cell 0).trans rfl
          have X1 : ∀ W, ExR (w.heap.size + 1) w4 W → W.cell? ⟨p5, 1, none⟩ = some (.int .i64 ((k : Int) + r)) := fun W h => ((hq4.exr h (by omega)).cell 1).trans rfl
          have X2 : ∀ W, ExR (w.heap.size + 1) w4 W → CvS (sA A c (k + r)) v (c - (k + r)) ((l.drop (k + r)).take v) W := fun W h => cvS (B := w.heap.size) _ (RS.exr h (by omega) hle)
          refine exr_take (i := 0) (oi := ?oia0) (v := ?va0) ?hia0 (by kernel_rfl) (by kernel_rfl) (by kernel_rfl) hQ ?hwa0 ?hya0 ?resta0
          case hia0 => simp only [List.getElem?_toArray, List.getElem?_cons_zero]; rfl
          case hwa0 => rfl
          case hya0 => intro W hW; go_simp; with_reducible rfl
          simp only [Act.put, List.setIfInBounds_toArray, List.set_cons_zero, List.set_cons_succ]
          refine exr_take (i := 1) (oi := ?oia1) (v := ?va1) ?hia1 (by kernel_rfl) (by kernel_rfl) (by kernel_rfl) hQ ?hwa1 ?hya1 ?resta1
          case hia1 => simp only [List.getElem?_toArray, List.getElem?_cons_zero, List.getElem?_cons_succ]; rfl
          case hwa1 => rfl
          case hya1 => intro W hW; go_simp; with_reducible rfl
          simp only [Act.put, List.setIfInBounds_toArray, List.set_cons_zero, List.set_cons_succ]
          refine exr_take (i := 2) (oi := ?oia2) (v := ?va2) ?hia2 (by kernel_rfl) (by kernel_rfl) (by kernel_rfl) hQ ?hwa2 ?hya2 ?resta2
          case hia2 => simp only [List.getElem?_toArray, List.getElem?_cons_zero, List.getElem?_cons_succ]; rfl
          case hwa2 => rfl
          case hya2 => intro W hW; go_simp; with_reducible rfl
          simp only [Act.put, List.setIfInBounds_toArray, List.set_cons_zero, List.set_cons_succ]
          refine exr_take (i := 4) (oi := ?oia4) (v := ?va4) ?hia4 (by kernel_rfl) (by kernel_rfl) (by kernel_rfl) hQ ?hwa4 ?hya4 ?resta4
          case hia4 => simp only [List.getElem?_toArray, List.getElem?_cons_zero, List.getElem?_cons_succ]; rfl
          case hwa4 => rfl
          case hya4 => intro W hW; go_simp; with_reducible rfl
          simp only [Act.put, List.setIfInBounds_toArray, List.set_cons_zero, List.set_cons_succ]
          refine exr_take (i := 5) (oi := ?oia5) (v := ?va5) ?hia5 (by kernel_rfl) (by kernel_rfl) (by kernel_rfl) hQ ?hwa5 ?hya5 ?resta5
          case hia5 => simp only [List.getElem?_toArray, List.getElem?_cons_zero, List.getElem?_cons_succ]; rfl
          case hwa5 => rfl
          case hya5 => intro W hW; go_simp; with_reducible rfl
          simp only [Act.put, List.setIfInBounds_toArray, List.set_cons_zero, List.set_cons_succ]
          refine exr_take (i := 6) (oi := ?oia6) (v := ?va6) ?hia6 (by kernel_rfl) (by kernel_rfl) (by kernel_rfl) hQ ?hwa6 ?hya6 ?resta6
          case hia6 => simp only [List.getElem?_toArray, List.getElem?_cons_zero, List.getElem?_cons_succ]; rfl
          case hwa6 => rfl
          case hya6 => intro W hW; go_simp; with_reducible rfl
          simp only [Act.put, List.setIfInBounds_toArray, List.set_cons_zero, List.set_cons_succ]
          refine exr_take (i := 7) (oi := ?oia7) (v := ?va7) ?hia7 (by kernel_rfl) (by kernel_rfl) (by kernel_rfl) hQ ?hwa7 ?hya7 ?resta7
          case hia7 => simp only [List.getElem?_toArray, List.getElem?_cons_zero, List.getElem?_cons_succ]; rfl
          case hwa7 => rfl
          case hya7 => intro W hW; go_simp; with_reducible rfl
          simp only [Act.put, List.setIfInBounds_toArray, List.set_cons_zero, List.set_cons_succ]
          refine exr_take (i := 8) (oi := ?oia8) (v := ?va8) ?hia8 (by kernel_rfl) (by kernel_rfl) (by kernel_rfl) hQ ?hwa8 ?hya8 ?resta8
          case hia8 => simp only [List.getElem?_toArray, List.getElem?_cons_zero, List.getElem?_cons_succ]; rfl
          case hwa8 => rfl
          case hya8 => intro W hW; go_simp; with_reducible rfl
          simp only [Act.put, List.setIfInBounds_toArray, List.set_cons_zero, List.set_cons_succ]
          refine exr_take (i := 9) (oi := ?oia9) (v := ?va9) ?hia9 (by kernel_rfl) (by kernel_rfl) (by kernel_rfl) hQ ?hwa9 ?hya9 ?resta9
          case hia9 => simp only [List.getElem?_toArray, List.getElem?_cons_zero, List.getElem?_cons_succ]; rfl
          case hwa9 => rfl
          case hya9 => intro W hW; go_simp; with_reducible rfl
          simp only [Act.put, List.setIfInBounds_toArray, List.set_cons_zero, List.set_cons_succ]
          refine exr_take (i := 10) (oi := ?oia10) (v := ?va10) ?hia10 (by kernel_rfl) (by kernel_rfl) (by kernel_rfl) hQ ?hwa10 ?hya10 ?resta10
          case hia10 => simp only [List.getElem?_toArray, List.getElem?_cons_zero, List.getElem?_cons_succ]; rfl
          case hwa10 => rfl
          case hya10 => intro W hW; go_simp; with_reducible rfl
          simp only [Act.put, List.setIfInBounds_toArray, List.set_cons_zero, List.set_cons_succ]
          refine exr_take (i := 11) (oi := ?oia11) (v := ?va11) ?hia11 (by kernel_rfl) (by kernel_rfl) (by kernel_rfl) hQ ?hwa11 ?hya11 ?resta11
          case hia11 => simp only [List.getElem?_toArray, List.getElem?_cons_zero, List.getElem?_cons_succ]; rfl
          case hwa11 => rfl
          case hya11 => intro W hW; go_simp; with_reducible rfl
          simp only [Act.put, List.setIfInBounds_toArray, List.set_cons_zero, List.set_cons_succ]
          refine exr_take (i := 12) (oi := ?oia12) (v := ?va12) ?hia12 (by kernel_rfl) (by kernel_rfl) (by kernel_rfl) hQ ?hwa12 ?hya12 ?resta12
          case hia12 => simp only [List.getElem?_toArray, List.getElem?_cons_zero, List.getElem?_cons_succ]; rfl
          case hwa12 => rfl
          case hya12 => intro W hW; go_simp; with_reducible rfl
          simp only [Act.put, List.setIfInBounds_toArray, List.set_cons_zero, List.set_cons_succ]
          refine exr_take (i := 13) (oi := ?oia13) (v := ?va13) ?hia13 (by kernel_rfl) (by kernel_rfl) (by kernel_rfl) hQ ?hwa13 ?hya13 ?resta13
          case hia13 => simp only [List.getElem?_toArray, List.getElem?_cons_zero, List.getElem?_cons_succ]; rfl
          case hwa13 => rfl
          case hya13 => intro W hW; go_simp; with_reducible rfl
          simp only [Act.put, List.setIfInBounds_toArray, List.set_cons_zero, List.set_cons_succ]
          refine exr_take (i := 14) (oi := ?oia14) (v := ?va14) ?hia14 (by kernel_rfl) (by kernel_rfl) (by kernel_rfl) hQ ?hwa14 ?hya14 ?resta14
          case hia14 => simp only [List.getElem?_toArray, List.getElem?_cons_zero, List.getElem?_cons_succ]; rfl
          case hwa14 => rfl
          case hya14 => intro W hW; go_simp; with_reducible rfl
          simp only [Act.put, List.setIfInBounds_toArray, List.set_cons_zero, List.set_cons_succ]
          refine exr_step (i := 3) (oi := ?oia3) (by kernel_rfl) ?hia3 ?hwa3 (fun K hK => ?_)
          case hia3 => simp only [List.getElem?_toArray, List.getElem?_cons_zero, List.getElem?_cons_succ]; rfl
          case hwa3 => rfl
          go_simp
          refine (on_any A n c ((k : Int) + r) v _ (by omega)).mono ?_; rintro e w5 ⟨rfl, b5⟩; have hz5 := hz4.below b5 hz4.lt; have hB5 := hB4.trans (b5.mono hB4.size); have z5_0 : w5.cell? ⟨w.heap.size + 1, 0, none⟩ = some (.slice none 0 0) := (hz5.cell 0).trans rfl; have z5_1 : w5.cell? ⟨w.heap.size + 1, 1, none⟩ = some (.int .i64 0) := (hz5.cell 1).trans rfl; have z5_f0 := hz5.frozen 0; have z5_f1 := hz5.frozen 1; refine hK _ _ (ExR.of b5 _) ?_
          try simp only [Act.put, List.setIfInBounds_toArray, List.set_cons_zero, List.set_cons_succ]
          refine exr_step (i := 15) (oi := ?oia15) (by kernel_rfl) ?hia15 ?hwa15 (fun K hK => ?_)
          case hia15 => simp only [List.getElem?_toArray, List.getElem?_cons_zero, List.getElem?_cons_succ]; rfl
          case hwa15 => rfl
          go_simp
          refine hK _ _ (by repeat (first | exact ExR.refl _ _ | refine ExR.set_ ?_ rfl _)) ?_
          try simp only [Act.put, List.setIfInBounds_toArray, List.set_cons_zero, List.set_cons_succ]
          refine exr_take (i := 16) (oi := ?oia16) (v := ?va16) ?hia16 (by kernel_rfl) (by kernel_rfl) (by kernel_rfl) hQ ?hwa16 ?hya16 ?resta16
          case hia16 => simp only [List.getElem?_toArray, List.getElem?_cons_zero, List.getElem?_cons_succ]; rfl
          case hwa16 => rfl
          case hya16 => intro W hW; go_simp; with_reducible rfl
          simp only [Act.put, List.setIfInBounds_toArray, List.set_cons_zero, List.set_cons_succ]
          refine exr_take (i := 17) (oi := ?oia17) (v := ?va17) ?hia17 (by kernel_rfl) (by kernel_rfl) (by kernel_rfl) hQ ?hwa17 ?hya17 ?resta17
          case hia17 => simp only [List.getElem?_toArray, List.getElem?_cons_zero, List.getElem?_cons_succ]; rfl
          case hwa17 => rfl
          case hya17 => intro W hW; go_simp; with_reducible rfl
          simp only [Act.put, List.setIfInBounds_toArray, List.set_cons_zero, List.set_cons_succ]
          refine wpAnyH_done (by kernel_rfl) ?_ _

          go_wp2_with fail
          refine ret_c2 rfl curT rfl (by repeat (first | exact hz5 | apply Blk.set_ | refine Blk.far ?_ (by simp <;> omega) _ | apply Blk.alloc | apply Blk.drew)) (by rfl) ?_
          exact ⟨by rw [HV.out.1, HV.out.2, HE2.out, Int.toNat_natCast]; rfl, (by have hs_ := hB5.size; repeat (first | exact hB5 | refine Below.setCell ?_ (by simp <;> omega) _ | refine Below.alloc ?_ (by simp <;> omega) _ | refine Below.drew ?_))⟩
      · have HE2 := Lib.hid (show utE l (k : Int) (q : Int) = uvE l (k : Int) q from by rw [HE.out, if_pos he])
        have HV := Lib.hid (ut_bad (l := l) (a := (k : Int)) (mo := (q : Int)) A n c rfl (by rw [HE2.out]; exact he))
        have HO := Lib.hid (uv_bad (l := l) (a := (k : Int)) (most := q) A n c rfl he)
        have hb0 : (uvE l (k : Int) q == 0) = false := by rw [beq_eq_false_iff_ne]; exact he
        clear HE he
        generalize uvE l (k : Int) q = e0 at *
        go_enter Try.func34, Try.ntmps34
        go_wp2_with fail
        refine (recheck_any A n c (k : Int) _).mono ?_
        rintro e w1 ⟨rfl, b1⟩

        rw [HC.out]
        have hz1 := hz.below b1 hz.lt
        have hB1 := hB.trans (b1.mono hB.size)
        have z1_0 : w1.cell? ⟨w.heap.size + 1, 0, none⟩ = some (.slice none 0 0) := (hz1.cell 0).trans rfl
        have z1_1 : w1.cell? ⟨w.heap.size + 1, 1, none⟩ = some (.int .i64 0) := (hz1.cell 1).trans rfl
        have z1_f0 := hz1.frozen 0
        have z1_f1 := hz1.frozen 1
        have hk1 := hk.below b1 hk.lt
        have k1_0 : w1.cell? ⟨w.heap.size, 0, none⟩ = some (.slice A n c) := (hk1.cell 0).trans rfl
        have k1_1 : w1.cell? ⟨w.heap.size, 1, none⟩ = some (.int .i64 (k : Int)) := (hk1.cell 1).trans rfl

        go_wp2_with fail
        refine (HU.out _ ((HR.out.mv hB).mv b1)).mono ?_
        rintro e w2 ⟨rfl, b2⟩

        rw [HO.out.1, HO.out.2]
        clear z1_0 z1_1 z1_f0 z1_f1 k1_0 k1_1
        have hz2 := hz1.below b2 hz1.lt
        have hB2 := hB1.trans (b2.mono hB1.size)
        have z2_0 : w2.cell? ⟨w.heap.size + 1, 0, none⟩ = some (.slice none 0 0) := (hz2.cell 0).trans rfl
        have z2_1 : w2.cell? ⟨w.heap.size + 1, 1, none⟩ = some (.int .i64 0) := (hz2.cell 1).trans rfl
        have z2_f0 := hz2.frozen 0
        have z2_f1 := hz2.frozen 1

        have hz3 := hz2.alloc (.cells #[.slice none 0 0, .int .i64 0] 33)
        have hB3 := hB2.alloc hB2.size (.cells #[.slice none 0 0, .int .i64 0] 33)
        have z3_0 : (w2.alloc (.cells #[.slice none 0 0, .int .i64 0] 33)).cell? ⟨w.heap.size + 1, 0, none⟩ = some (.slice none 0 0) := (hz3.cell 0).trans rfl
        have z3_1 : (w2.alloc (.cells #[.slice none 0 0, .int .i64 0] 33)).cell? ⟨w.heap.size + 1, 1, none⟩ = some (.int .i64 0) := (hz3.cell 1).trans rfl
        have z3_f0 := hz3.frozen 0
        have z3_f1 := hz3.frozen 1

        go_wp2_with fail
        refine ret_c2 rfl curT rfl (by repeat (first | exact hz3 | apply Blk.set_ | refine Blk.far ?_ (by simp <;> omega) _ | apply Blk.alloc | apply Blk.drew)) (by rfl) ?_
        exact ⟨by rw [HV.out.1, HV.out.2, HE2.out]; rfl, (by have hs_ := hB3.size; repeat (first | exact hB3 | refine Below.setCell ?_ (by simp <;> omega) _ | refine Below.alloc ?_ (by simp <;> omega) _ | refine Below.drew ?_))⟩

end Go.Proofs.Ytnonikeolpokkaa
