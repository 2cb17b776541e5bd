/- Contracts of the reading side: the reference's Unfixed, Untext, and wire.fine, Unfixed. Each states its conditions. -/
import Derived.Test.YtnonikeolpokkaaWireReads1
namespace Go.Proofs.Ytnonikeolpokkaa
open Go.RowKit Wire
set_option linter.unusedVariables false

theorem size8 : ∀ w, (sizeOf 5).run Try.prog w = .ok 1 w := fun _ => by kernel_rfl
theorem sl_lh (A : Option Addr) (n c i v : Nat) {a b : Int} (ha : a = i) (hb : b = i + v) (hc : i + v ≤ c) (W : World) :
    (Instr.slice 23 (.slice A n c) (some (.int .i64 a)) (some (.int .i64 b)) none).run Try.prog W = .ok (.slice (sA A c i) v (c - i)) W := slice_lh Try.underlying23 size8 A n c i v ha hb hc W
theorem sl_l (A : Option Addr) (n c i : Nat) {a : Int} (ha : a = i) (hc : i ≤ n) (W : World) :
    (Instr.slice 23 (.slice A n c) (some (.int .i64 a)) none none).run Try.prog W = .ok (.slice (sA A c i) (n - i) (c - i)) W := slice_l Try.underlying23 size8 A n c i ha hc W
/-- What Unfixed answers: the error, the number, the cursor. -/
def ufE (l : List UInt8) (a wd : Int) : Int := if ckB l.length a then (if wdB wd then (if (l.length : Int) - a < wd then 24 else 0) else 2) else 8
def ufN (l : List UInt8) (a wd : Int) : Nat := if ufE l a wd = 0 then unl ((l.drop a.toNat).take wd.toNat) else 0
def ufC (A : Option Addr) (n c : Nat) (l : List UInt8) (a wd : Int) : Value := if ufE l a wd = 0 then cur A n c (a + wd) else cur none 0 0 0
theorem uf_bad {l : List UInt8} {a wd : Int} {e : Int} (A : Option Addr) (n c : Nat) (h : ufE l a wd = e) (he : e ≠ 0) : ufN l a wd = 0 ∧ ufC A n c l a wd = cur none 0 0 0 := by
  subst h; simp [ufN, ufC, he]

set_option maxRecDepth 100000 in
set_option maxHeartbeats 1600000 in
theorem reunfixed_any (A : Option Addr) (n c : Nat) (l : List UInt8) (a wd : Int) (w : World) (hr : Rb w A n l) (hn : n ≤ 9223372036854775807) (hnc : n ≤ c) (ha : -9223372036854775808 ≤ a ∧ a ≤ 9223372036854775807) (hwd : -9223372036854775808 ≤ wd ∧ wd ≤ 9223372036854775807) :
    Calls Try.prog 30 #[cur A n c a, .int .i64 wd] w fun e w' => e = .returned (.tuple #[ufC A n c l a wd, .int .u64 (ufN l a wd : Nat), .int .i64 (ufE l a wd)]) ∧ Below w.heap.size w w' := by
  have HL := Lib.hid hr.len8
  have HR := Lib.hid hr
  clear hr
  have hB := ((Below.refl w.heap.size w).alloc (Nat.le_refl _) (.cells #[.slice A n c, .int .i64 a] 33)).alloc (by simp) (.cells #[.slice none 0 0, .int .i64 0] 33)
  have hk := (Blk.new w 33 #[.slice A n c, .int .i64 a]).alloc (.cells #[.slice none 0 0, .int .i64 0] 33)
  have hz := Blk.new (w.alloc (.cells #[.slice A n c, .int .i64 a] 33)) 33 #[.slice none 0 0, .int .i64 0]
  rw [alloc_size] at hz

  cases hck : ckB n a
  · have HC := Lib.hid (show ckE n a = 8 from by simp [ckE, hck])
    have HE := Lib.hid (show ufE l a wd = 8 from by unfold ufE; rw [HL.out, hck]; rfl)
    have HV := Lib.hid (uf_bad A n c HE.out (by decide))
    clear hck
    go_enter Try.func30, Try.ntmps30
    go_wp2_with fail
    refine (recheck_any A n c a _).mono ?_
    rintro e w1 ⟨rfl, b1⟩

    rw [HC.out]
    have hz1 := hz.below b1 hz.lt
    have hB1 := hB.trans (b1.mono hB.size)
    have z1_0 : w1.cell? ⟨w.heap.size + 1, 0, none⟩ = some (.slice none 0 0) := (hz1.cell 0).trans rfl
    have z1_1 : w1.cell? ⟨w.heap.size + 1, 1, none⟩ = some (.int .i64 0) := (hz1.cell 1).trans rfl
    have z1_f0 := hz1.frozen 0
    have z1_f1 := hz1.frozen 1

    go_wp2_with fail
    refine ret_c2 rfl curT rfl (by repeat (first | exact hz1 | apply Blk.set_ | refine Blk.far ?_ (by simp <;> omega) _ | apply Blk.alloc | apply Blk.drew)) (by rfl) ?_
    exact ⟨by rw [HV.out.1, HV.out.2, HE.out]; rfl, (by have hs_ := hB1.size; repeat (first | exact hB1 | refine Below.setCell ?_ (by simp <;> omega) _ | refine Below.alloc ?_ (by simp <;> omega) _ | refine Below.drew ?_))⟩

  · obtain ⟨h1, h2, h3⟩ := ck_ok hck
    have HC := Lib.hid (show ckE n a = 0 from by simp [ckE, hck])
    have HE0 := Lib.hid (show ufE l a wd = (if wdB wd then (if (n : Int) - a < wd then 24 else 0) else 2) from by unfold ufE; rw [if_pos (by rw [HL.out]; exact hck), HL.out])
    obtain ⟨k, rfl⟩ : ∃ k : Nat, a = (k : Int) := ⟨a.toNat, by omega⟩
    clear hck
    cases hw : wdB wd
    · have HE := Lib.hid (show ufE l (k : Int) wd = 2 from by rw [HE0.out, hw]; rfl)
      have HV := Lib.hid (uf_bad A n c HE.out (by decide))
      have HW := Lib.hid hw
      clear hw
      go_enter Try.func30, Try.ntmps30
      go_wp2_with fail
      refine (recheck_any A n c (k : Int) _).mono ?_
      rintro e w1 ⟨rfl, b1⟩

      rw [HC.out]
      have hz1 := hz.below b1 hz.lt
      have hB1 := hB.trans (b1.mono hB.size)
      have z1_0 : w1.cell? ⟨w.heap.size + 1, 0, none⟩ = some (.slice none 0 0) := (hz1.cell 0).trans rfl
      have z1_1 : w1.cell? ⟨w.heap.size + 1, 1, none⟩ = some (.int .i64 0) := (hz1.cell 1).trans rfl
      have z1_f0 := hz1.frozen 0
      have z1_f1 := hz1.frozen 1

      go_wp2_with (go_at_call 22; refine (Wide_any _ _).mono ?_; rintro e w2 ⟨rfl, rfl⟩; rw [HW.out])
      refine ret_c2 rfl curT rfl (by repeat (first | exact hz1 | apply Blk.set_ | refine Blk.far ?_ (by simp <;> omega) _ | apply Blk.alloc | apply Blk.drew)) (by rfl) ?_
      exact ⟨by rw [HV.out.1, HV.out.2, HE.out]; rfl, (by have hs_ := hB1.size; repeat (first | exact hB1 | refine Below.setCell ?_ (by simp <;> omega) _ | refine Below.alloc ?_ (by simp <;> omega) _ | refine Below.drew ?_))⟩

    · have HW := Lib.hid hw
      obtain ⟨v, hv, rfl⟩ : ∃ v : Nat, v ≤ 8 ∧ wd = (v : Int) := by
        rcases wdB_of hw with rfl | rfl | rfl | rfl
        · exact ⟨1, by omega, rfl⟩
        · exact ⟨2, by omega, rfl⟩
        · exact ⟨4, by omega, rfl⟩
        · exact ⟨8, by omega, rfl⟩
      have HE1 := Lib.hid (show ufE l (k : Int) (v : Int) = (if (n : Int) - (k : Int) < (v : Int) then 24 else 0) from by rw [HE0.out, hw]; rfl)
      clear hw HE0
      by_cases hs : n - k < v
      · have HE := Lib.hid (show ufE l (k : Int) (v : Int) = 24 from by rw [HE1.out, if_pos (by omega)])
        have HV := Lib.hid (uf_bad A n c HE.out (by decide))
        have d1 : decide ((n : Int) - (k : Int) < (v : Int)) = true := by simp; omega
        go_enter Try.func30, Try.ntmps30
        go_wp2_with fail
        refine (recheck_any A n c (k : Int) _).mono ?_
        rintro e w1 ⟨rfl, b1⟩

        rw [HC.out]
        have hz1 := hz.below b1 hz.lt
        have hB1 := hB.trans (b1.mono hB.size)
        have z1_0 : w1.cell? ⟨w.heap.size + 1, 0, none⟩ = some (.slice none 0 0) := (hz1.cell 0).trans rfl
        have z1_1 : w1.cell? ⟨w.heap.size + 1, 1, none⟩ = some (.int .i64 0) := (hz1.cell 1).trans rfl
        have z1_f0 := hz1.frozen 0
        have z1_f1 := hz1.frozen 1
        have hk1 := hk.below b1 hk.lt
        have k1_0 : w1.cell? ⟨w.heap.size, 0, none⟩ = some (.slice A n c) := (hk1.cell 0).trans rfl
        have k1_1 : w1.cell? ⟨w.heap.size, 1, none⟩ = some (.int .i64 (k : Int)) := (hk1.cell 1).trans rfl

        go_wp2_with (go_at_call 22; refine (Wide_any _ _).mono ?_; rintro e w2 ⟨rfl, rfl⟩; rw [HW.out])
        refine ret_c2 rfl curT rfl (by repeat (first | exact hz1 | apply Blk.set_ | refine Blk.far ?_ (by simp <;> omega) _ | apply Blk.alloc | apply Blk.drew)) (by rfl) ?_
        exact ⟨by rw [HV.out.1, HV.out.2, HE.out]; rfl, (by have hs_ := hB1.size; repeat (first | exact hB1 | refine Below.setCell ?_ (by simp <;> omega) _ | refine Below.alloc ?_ (by simp <;> omega) _ | refine Below.drew ?_))⟩

      · have HE := Lib.hid (show ufE l (k : Int) (v : Int) = 0 from by rw [HE1.out, if_neg (by omega)])
        have HV := Lib.hid (show ufN l (k : Int) (v : Int) = unl ((l.drop k).take v) ∧ ufC A n c l (k : Int) (v : Int) = cur A n c ((k : Int) + v) from by simp [ufN, ufC, HE.out])
        have d1 : decide ((n : Int) - (k : Int) < (v : Int)) = false := by simp; omega
        have hkv : k + v ≤ n := by omega
        have HS := sl_lh A n c k v (a := (k : Int)) (b := (k : Int) + v) rfl rfl (by omega)
        have HW1 : IntKind.i64.wrap ((k : Int) + (v : Int)) = (k : Int) + v := by rw [IntKind.wrap_i64]; omega
        go_enter Try.func30, Try.ntmps30
        go_wp2_with fail
        refine (recheck_any A n c (k : Int) _).mono ?_
        rintro e w1 ⟨rfl, b1⟩

        rw [HC.out]
        have hz1 := hz.below b1 hz.lt
        have hB1 := hB.trans (b1.mono hB.size)
        have z1_0 : w1.cell? ⟨w.heap.size + 1, 0, none⟩ = some (.slice none 0 0) := (hz1.cell 0).trans rfl
        have z1_1 : w1.cell? ⟨w.heap.size + 1, 1, none⟩ = some (.int .i64 0) := (hz1.cell 1).trans rfl
        have z1_f0 := hz1.frozen 0
        have z1_f1 := hz1.frozen 1
        have hk1 := hk.below b1 hk.lt
        have k1_0 : w1.cell? ⟨w.heap.size, 0, none⟩ = some (.slice A n c) := (hk1.cell 0).trans rfl
        have k1_1 : w1.cell? ⟨w.heap.size, 1, none⟩ = some (.int .i64 (k : Int)) := (hk1.cell 1).trans rfl

        go_wp2_with (go_at_call 22; refine (Wide_any _ _).mono ?_; rintro e w2 ⟨rfl, rfl⟩; rw [HW.out])
        go_wp2_with fail
        refine exr_start (w.heap.size + 1) (by kernel_rfl) (by repeat (first | exact calm_body | apply calm_then | apply calm_block)) (fun hQ => ?_)

        have hz4 := hz1.drew
        have hk4 := hk1.drew
        have hB4 := hB1.drew
        have RS := sub_reads (i := k) (v := v) (HR.out.below hB4) hkv hnc
        clear k1_0 k1_1 z1_0 z1_1 z1_f0 z1_f1
        generalize w1.drew = w4 at *
        have hle := hB4.size
        have hlt := hk4.lt
        have X0 : ∀ W, ExR (w.heap.size + 1) w4 W → W.cell? ⟨w.heap.size, 0, none⟩ = some (.slice A n c) := fun W h => ((hk4.exr h (by omega)).cell 0).trans rfl
        have X1 : ∀ W, ExR (w.heap.size + 1) w4 W → W.cell? ⟨w.heap.size, 1, none⟩ = some (.int .i64 (k : Int)) := fun W h => ((hk4.exr h (by omega)).cell 1).trans rfl
        refine exr_take (i := 0) (oi := ?oia0) (v := ?va0) ?hia0 (by kernel_rfl) (by kernel_rfl) (by kernel_rfl) hQ ?hwa0 ?hya0 ?resta0
        case hia0 => simp only [List.getElem?_toArray, List.getElem?_cons_zero]; rfl
        case hwa0 => rfl
        case hya0 => intro W hW; go_simp; with_reducible rfl
        simp only [Act.put, List.setIfInBounds_toArray, List.set_cons_zero, List.set_cons_succ]
        refine exr_take (i := 1) (oi := ?oia1) (v := ?va1) ?hia1 (by kernel_rfl) (by kernel_rfl) (by kernel_rfl) hQ ?hwa1 ?hya1 ?resta1
        case hia1 => simp only [List.getElem?_toArray, List.getElem?_cons_zero, List.getElem?_cons_succ]; rfl
        case hwa1 => rfl
        case hya1 => intro W hW; go_simp; with_reducible rfl
        simp only [Act.put, List.setIfInBounds_toArray, List.set_cons_zero, List.set_cons_succ]
        refine exr_take (i := 3) (oi := ?oia3) (v := ?va3) ?hia3 (by kernel_rfl) (by kernel_rfl) (by kernel_rfl) hQ ?hwa3 ?hya3 ?resta3
        case hia3 => simp only [List.getElem?_toArray, List.getElem?_cons_zero, List.getElem?_cons_succ]; rfl
        case hwa3 => rfl
        case hya3 => intro W hW; go_simp; with_reducible rfl
        simp only [Act.put, List.setIfInBounds_toArray, List.set_cons_zero, List.set_cons_succ]
        refine exr_take (i := 4) (oi := ?oia4) (v := ?va4) ?hia4 (by kernel_rfl) (by kernel_rfl) (by kernel_rfl) hQ ?hwa4 ?hya4 ?resta4
        case hia4 => simp only [List.getElem?_toArray, List.getElem?_cons_zero, List.getElem?_cons_succ]; rfl
        case hwa4 => rfl
        case hya4 => intro W hW; go_simp; with_reducible rfl
        simp only [Act.put, List.setIfInBounds_toArray, List.set_cons_zero, List.set_cons_succ]
        refine exr_take (i := 5) (oi := ?oia5) (v := ?va5) ?hia5 (by kernel_rfl) (by kernel_rfl) (by kernel_rfl) hQ ?hwa5 ?hya5 ?resta5
        case hia5 => simp only [List.getElem?_toArray, List.getElem?_cons_zero, List.getElem?_cons_succ]; rfl
        case hwa5 => rfl
        case hya5 => intro W hW; go_simp; with_reducible rfl
        simp only [Act.put, List.setIfInBounds_toArray, List.set_cons_zero, List.set_cons_succ]
        refine exr_take (i := 6) (oi := ?oia6) (v := ?va6) ?hia6 (by kernel_rfl) (by kernel_rfl) (by kernel_rfl) hQ ?hwa6 ?hya6 ?resta6
        case hia6 => simp only [List.getElem?_toArray, List.getElem?_cons_zero, List.getElem?_cons_succ]; rfl
        case hwa6 => rfl
        case hya6 => intro W hW; go_simp; with_reducible rfl
        simp only [Act.put, List.setIfInBounds_toArray, List.set_cons_zero, List.set_cons_succ]
        refine exr_take (i := 7) (oi := ?oia7) (v := ?va7) ?hia7 (by kernel_rfl) (by kernel_rfl) (by kernel_rfl) hQ ?hwa7 ?hya7 ?resta7
        case hia7 => simp only [List.getElem?_toArray, List.getElem?_cons_zero, List.getElem?_cons_succ]; rfl
        case hwa7 => rfl
        case hya7 => intro W hW; go_simp; with_reducible rfl
        simp only [Act.put, List.setIfInBounds_toArray, List.set_cons_zero, List.set_cons_succ]
        refine exr_take (i := 8) (oi := ?oia8) (v := ?va8) ?hia8 (by kernel_rfl) (by kernel_rfl) (by kernel_rfl) hQ ?hwa8 ?hya8 ?resta8
        case hia8 => simp only [List.getElem?_toArray, List.getElem?_cons_zero, List.getElem?_cons_succ]; rfl
        case hwa8 => rfl
        case hya8 => intro W hW; go_simp; with_reducible rfl
        simp only [Act.put, List.setIfInBounds_toArray, List.set_cons_zero, List.set_cons_succ]
        refine exr_take (i := 9) (oi := ?oia9) (v := ?va9) ?hia9 (by kernel_rfl) (by kernel_rfl) (by kernel_rfl) hQ ?hwa9 ?hya9 ?resta9
        case hia9 => simp only [List.getElem?_toArray, List.getElem?_cons_zero, List.getElem?_cons_succ]; rfl
        case hwa9 => rfl
        case hya9 => intro W hW; go_simp; with_reducible rfl
        simp only [Act.put, List.setIfInBounds_toArray, List.set_cons_zero, List.set_cons_succ]
        refine exr_take (i := 10) (oi := ?oia10) (v := ?va10) ?hia10 (by kernel_rfl) (by kernel_rfl) (by kernel_rfl) hQ ?hwa10 ?hya10 ?resta10
        case hia10 => simp only [List.getElem?_toArray, List.getElem?_cons_zero, List.getElem?_cons_succ]; rfl
        case hwa10 => rfl
        case hya10 => intro W hW; go_simp; with_reducible rfl
        simp only [Act.put, List.setIfInBounds_toArray, List.set_cons_zero, List.set_cons_succ]
        refine exr_take (i := 11) (oi := ?oia11) (v := ?va11) ?hia11 (by kernel_rfl) (by kernel_rfl) (by kernel_rfl) hQ ?hwa11 ?hya11 ?resta11
        case hia11 => simp only [List.getElem?_toArray, List.getElem?_cons_zero, List.getElem?_cons_succ]; rfl
        case hwa11 => rfl
        case hya11 => intro W hW; go_simp; with_reducible rfl
        simp only [Act.put, List.setIfInBounds_toArray, List.set_cons_zero, List.set_cons_succ]
        refine exr_step (i := 2) (oi := ?oia2) (by kernel_rfl) ?hia2 ?hwa2 (fun K hK => ?_)
        case hia2 => simp only [List.getElem?_toArray, List.getElem?_cons_zero, List.getElem?_cons_succ]; rfl
        case hwa2 => rfl
        go_simp
        refine (on_any A n c (k : Int) v _ (by omega)).mono ?_; rintro e w5 ⟨rfl, b5⟩; have RS5 := (RS.more hB4.size).mv b5; have hz5 := hz4.below b5 hz4.lt; have hB5 := hB4.trans (b5.mono hB4.size); have z5_0 : w5.cell? ⟨w.heap.size + 1, 0, none⟩ = some (.slice none 0 0) := (hz5.cell 0).trans rfl; have z5_1 : w5.cell? ⟨w.heap.size + 1, 1, none⟩ = some (.int .i64 0) := (hz5.cell 1).trans rfl; have z5_f0 := hz5.frozen 0; have z5_f1 := hz5.frozen 1; refine hK _ _ (ExR.of b5 _) ?_
        try simp only [Act.put, List.setIfInBounds_toArray, List.set_cons_zero, List.set_cons_succ]
        refine exr_step (i := 12) (oi := ?oia12) (by kernel_rfl) ?hia12 ?hwa12 (fun K hK => ?_)
        case hia12 => simp only [List.getElem?_toArray, List.getElem?_cons_zero, List.getElem?_cons_succ]; rfl
        case hwa12 => rfl
        go_simp
        refine (unlittle_any _ _ _ ((l.drop k).take v) _ RS5 hv).mono ?_; rintro e w6 ⟨rfl, rfl⟩; refine hK _ _ (ExR.refl _ _) ?_
        try simp only [Act.put, List.setIfInBounds_toArray, List.set_cons_zero, List.set_cons_succ]
        refine exr_step (i := 13) (oi := ?oia13) (by kernel_rfl) ?hia13 ?hwa13 (fun K hK => ?_)
        case hia13 => simp only [List.getElem?_toArray, List.getElem?_cons_zero, List.getElem?_cons_succ]; rfl
        case hwa13 => rfl
        go_simp
        refine hK _ _ (by repeat (first | exact ExR.refl _ _ | refine ExR.set_ ?_ rfl _)) ?_
        try simp only [Act.put, List.setIfInBounds_toArray, List.set_cons_zero, List.set_cons_succ]
        refine exr_take (i := 14) (oi := ?oia14) (v := ?va14) ?hia14 (by kernel_rfl) (by kernel_rfl) (by kernel_rfl) hQ ?hwa14 ?hya14 ?resta14
        case hia14 => simp only [List.getElem?_toArray, List.getElem?_cons_zero, List.getElem?_cons_succ]; rfl
        case hwa14 => rfl
        case hya14 => intro W hW; go_simp; with_reducible rfl
        simp only [Act.put, List.setIfInBounds_toArray, List.set_cons_zero, List.set_cons_succ]
        refine exr_take (i := 15) (oi := ?oia15) (v := ?va15) ?hia15 (by kernel_rfl) (by kernel_rfl) (by kernel_rfl) hQ ?hwa15 ?hya15 ?resta15
        case hia15 => simp only [List.getElem?_toArray, List.getElem?_cons_zero, List.getElem?_cons_succ]; rfl
        case hwa15 => rfl
        case hya15 => intro W hW; go_simp; with_reducible rfl
        simp only [Act.put, List.setIfInBounds_toArray, List.set_cons_zero, List.set_cons_succ]
        refine wpAnyH_done (by kernel_rfl) ?_ _

        go_wp2_with fail
        refine ret_c2 rfl curT rfl (by repeat (first | exact hz5 | apply Blk.set_ | refine Blk.far ?_ (by simp <;> omega) _ | apply Blk.alloc | apply Blk.drew)) (by rfl) ?_
        exact ⟨by rw [HV.out.1, HV.out.2, HE.out]; rfl, (by have hs_ := hB5.size; repeat (first | exact hB5 | refine Below.setCell ?_ (by simp <;> omega) _ | refine Below.alloc ?_ (by simp <;> omega) _ | refine Below.drew ?_))⟩

end Go.Proofs.Ytnonikeolpokkaa
