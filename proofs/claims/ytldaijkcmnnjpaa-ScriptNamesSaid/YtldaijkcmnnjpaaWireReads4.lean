/- Contracts and laws of a chapter that its statement of names leans on. Each states its conditions. -/
import Derived.Test.YtldaijkcmnnjpaaWireReads2
namespace Go.Proofs.Ytldaijkcmnnjpaa
open Go.RowKit Wire
set_option linter.unusedVariables false
/-- The first error of a list. -/
def fnE : List Int → Int
  | [] => 0
  | e :: r => if e = 0 then fnE r else e
set_option maxRecDepth 100000 in
set_option maxHeartbeats 1600000 in
theorem fine_any (A : Option Addr) (n c : Nat) (es : List Int) (w : World) (hr : Reads w w.heap.size 1 A n (es.map (Value.int .i64))) (hn : n ≤ 9223372036854775807) :
    Calls Try.prog 102 #[.slice A n c] w fun e w' => e = .returned (.int .i64 (fnE es)) ∧ w = w' := by
  have HL := Lib.hid (show es.length = n from by simpa using hr.1)
  have HR := Lib.hid hr
  clear hr
  go_enter Try.func102, Try.ntmps102
  go_wp2_with fail
  go_loop [7] (fun i => ∃ j : Nat, j ≤ n ∧ i = .int .i64 (j : Int) ∧ fnE (es.drop j) = fnE es) (fun i => n - (intOf i).toNat)
  case atStart => exact ⟨0, by omega, rfl, rfl⟩
  case round =>
    obtain ⟨j, hj, rfl, hf⟩ := hrel
    have HF := Lib.hid hf
    clear hf
    by_cases hlt : j < n
    · obtain ⟨ad, u, rfl, hb, hx, hc⟩ := HR.out.at_ hlt
      have hl : j < es.length := by rw [HL.out]; exact hlt
      rw [List.getElem?_map, List.getElem?_eq_getElem hl] at hx
      simp at hx
      have HD := Lib.hid (List.drop_eq_getElem_cons hl)
      subst hx
      generalize es[j] = x at *
      by_cases h0 : x = 0
      · have d0 : (x != 0) = false := by simpa using h0
        have HN := Lib.hid (show fnE (es.drop (j + 1)) = fnE es from by rw [← HF.out, HD.out, fnE, if_pos h0])
        subst h0
        clear HF HD
        go_wp2_with fail
        go_round
        case rel => exact ⟨j + 1, by omega, by go_num, HN.out⟩
        case measure => simp [intOf]; omega
      · have d0 : (x != 0) = true := by simpa using h0
        have HN := Lib.hid (show fnE es = x from by rw [← HF.out, HD.out, fnE, if_neg h0])
        clear HF HD
        go_wp2_with fail
        go_ret
        exact ⟨by rw [HN.out]; rfl, rfl⟩
    · have HN := Lib.hid (show fnE es = 0 from by rw [← HF.out, List.drop_eq_nil_of_le (by rw [HL.out]; omega)]; rfl)
      clear HF
      go_wp2_with fail
      go_ret
      exact ⟨by rw [HN.out]; rfl, rfl⟩
theorem unl_take {s : List UInt8} {j : Nat} {z : UInt8} (h : s[j]? = some z) : unl (s.take (j + 1)) = unl (s.take j) + 256 ^ j * z.toNat := by
  have hj := (List.getElem?_eq_some_iff.1 h).1
  rw [take_succ_of h, unl_append, List.length_take, Nat.min_eq_left (by omega)]
  simp [unl]
theorem or_fix {m z j : Nat} (hj : j ≤ 7) (hz : z < 256) (hm : m < 256 ^ j) :
    bits .or .u64 (m : Int) (IntKind.u64.wrap (IntKind.u64.wrap (z : Int) * 2 ^ (8 * j))) = ((m + 256 ^ j * z : Nat) : Int) := by
  have e2 : (256 : Nat) ^ j = 2 ^ (8 * j) := by rw [Nat.pow_mul]
  have h7 : 256 ^ j ≤ 72057594037927936 := by
    have : 256 ^ j ≤ 256 ^ 7 := Nat.pow_le_pow_right (by omega) hj
    simpa using this
  have hb := Nat.mul_le_mul h7 (show z ≤ 255 by omega)
  have e4 : (z : Int) * 2 ^ (8 * j) = ((256 ^ j * z : Nat) : Int) := by rw [e2, Int.natCast_mul, Int.mul_comm]; simp
  have e3 : IntKind.u64.wrap (z : Int) = (z : Int) := by rw [IntKind.wrap_u64]; omega
  rw [e3, e4]
  have e5 : IntKind.u64.wrap ((256 ^ j * z : Nat) : Int) = ((256 ^ j * z : Nat) : Int) := by rw [IntKind.wrap_u64]; omega
  rw [e5, u64_or_nat _ _ (by omega) (by omega)]
  congr 1
  rw [Nat.or_comm, nat_join (8 * j) (256 ^ j * z) m (by rw [e2]; simp) (by rw [← e2]; exact hm), Nat.add_comm]
set_option maxRecDepth 100000 in
set_option maxHeartbeats 3200000 in
theorem unfixed_any (A : Option Addr) (n c : Nat) (l : List UInt8) (a wd : Int) (w : World) (hr : Rb w A n l) (hn : n ≤ 9223372036854775807) (hnc : n ≤ c) (ha : -9223372036854775808 ≤ a ∧ a ≤ 9223372036854775807) (hwd : -9223372036854775808 ≤ wd ∧ wd ≤ 9223372036854775807) :
    Calls Try.prog 74 #[cur A n c a, .int .i64 wd] w fun e w' => e = .returned (.tuple #[ufC A n c l a wd, .int .u64 (ufN l a wd : Nat), .int .i64 (ufE l a wd)]) ∧ Below w.heap.size w w' := by
  have HL := Lib.hid hr.len8
  have HR := Lib.hid hr
  clear hr
  have hB := ((Below.refl w.heap.size w).alloc (Nat.le_refl _) (.cells #[.slice A n c, .int .i64 a] 70)).alloc (by simp) (.cells #[.slice none 0 0, .int .i64 0] 70)
  have hk := (Blk.new w 70 #[.slice A n c, .int .i64 a]).alloc (.cells #[.slice none 0 0, .int .i64 0] 70)
  have hz := Blk.new (w.alloc (.cells #[.slice A n c, .int .i64 a] 70)) 70 #[.slice none 0 0, .int .i64 0]
  rw [alloc_size] at hz

  have hwd2 : (if wdB wd then (0 : Int) else 2) = 0 ∨ (if wdB wd then (0 : Int) else 2) = 2 := by cases wdB wd <;> simp
  cases hck : ckB n a
  · have HC := Lib.hid (show ckE n a = 8 from by simp [ckE, hck])
    have HE := Lib.hid (show ufE l a wd = 8 from by unfold ufE; rw [HL.out, hck]; rfl)
    have HV := Lib.hid (uf_bad A n c HE.out (by decide))
    obtain ⟨x, hx⟩ : ∃ x : Int, (if wdB wd then (0 : Int) else 2) = x := ⟨_, rfl⟩
    have HW := Lib.hid hx
    clear hck hx hwd2
    go_enter Try.func74, Try.ntmps74
    go_wp2_with fail
    refine (check_any A n c a _).mono ?_
    rintro e w1 ⟨rfl, b1⟩
    rw [HC.out]
    have hz1 := hz.below b1 hz.lt
    have hB1 := hB.trans (b1.mono hB.size)
    have z1_0 : w1.cell? ⟨w.heap.size + 1, 0, none⟩ = some (.slice none 0 0) := (hz1.cell 0).trans rfl
    have z1_1 : w1.cell? ⟨w.heap.size + 1, 1, none⟩ = some (.int .i64 0) := (hz1.cell 1).trans rfl
    have z1_f0 := hz1.frozen 0
    have z1_f1 := hz1.frozen 1
    have hk1 := hk.below b1 hk.lt
    have k1_0 : w1.cell? ⟨w.heap.size, 0, none⟩ = some (.slice A n c) := (hk1.cell 0).trans rfl
    have k1_1 : w1.cell? ⟨w.heap.size, 1, none⟩ = some (.int .i64 a) := (hk1.cell 1).trans rfl

    go_wp2_with (go_at_call 103; refine (wide_any _ _).mono ?_; rintro e w2 ⟨rfl, rfl⟩; rw [HW.out])
    have b2 := Ext.al w1 (.cells #[.int .i64 (8), .int .i64 (x)] 26)
    have RF := (reads_row w1 [.int .i64 (8), .int .i64 (x)] 26).more (Nat.le_of_eq (alloc_size w1 (.cells #[.int .i64 (8), .int .i64 (x)] 26)).symm)
    clear z1_0 z1_1 z1_f0 z1_f1 k1_0 k1_1
    refine (fine_any _ 2 2 [8, x] _ RF (by omega)).mono ?_
    rintro e w3 ⟨rfl, rfl⟩
    have hz2 := hz1.below b2 hz1.lt
    have hk2 := hk1.below b2 hk1.lt
    have hB2 := hB1.trans (Below.mono b2 hB1.size)
    generalize w1.alloc (.cells #[.int .i64 (8), .int .i64 (x)] 26) = w3 at *
    have z2_0 : w3.cell? ⟨w.heap.size + 1, 0, none⟩ = some (.slice none 0 0) := (hz2.cell 0).trans rfl
    have z2_1 : w3.cell? ⟨w.heap.size + 1, 1, none⟩ = some (.int .i64 0) := (hz2.cell 1).trans rfl
    have z2_f0 := hz2.frozen 0
    have z2_f1 := hz2.frozen 1
    have k2_0 : w3.cell? ⟨w.heap.size, 0, none⟩ = some (.slice A n c) := (hk2.cell 0).trans rfl
    have k2_1 : w3.cell? ⟨w.heap.size, 1, none⟩ = some (.int .i64 a) := (hk2.cell 1).trans rfl
    have k2_f0 := hk2.frozen 0
    have k2_f1 := hk2.frozen 1
    rw [show fnE [8, x] = 8 from rfl]

    go_wp2_with fail
    refine ret_c2 rfl curT rfl (by repeat (first | exact hz2 | apply Blk.set_ | (apply Blk.far; case hp => (simp <;> omega)) | apply Blk.alloc | apply Blk.drew)) (by rfl) ?_
    exact ⟨by rw [HV.out.1, HV.out.2, HE.out]; rfl, (by have hs_ := hB2.size; repeat (first | exact hB2 | refine Below.setCell ?_ (by simp <;> omega) _ | refine Below.alloc ?_ (by simp <;> omega) _ | refine Below.drew ?_))⟩

  · obtain ⟨h1, h2, h3⟩ := ck_ok hck
    have HC := Lib.hid (show ckE n a = 0 from by simp [ckE, hck])
    have HE0 := Lib.hid (show ufE l a wd = (if wdB wd then (if (n : Int) - a < wd then 24 else 0) else 2) from by unfold ufE; rw [if_pos (by rw [HL.out]; exact hck), HL.out])
    obtain ⟨k, rfl⟩ : ∃ k : Nat, a = (k : Int) := ⟨a.toNat, by omega⟩
    clear hck hwd2
    cases hw : wdB wd
    · have HE := Lib.hid (show ufE l (k : Int) wd = 2 from by rw [HE0.out, hw]; rfl)
      have HV := Lib.hid (uf_bad A n c HE.out (by decide))
      have HW := Lib.hid (show (if wdB wd then (0 : Int) else 2) = 2 from by rw [hw]; rfl)
      clear hw
      go_enter Try.func74, Try.ntmps74
      go_wp2_with fail
      refine (check_any A n c (k : Int) _).mono ?_
      rintro e w1 ⟨rfl, b1⟩
      rw [HC.out]
      have hz1 := hz.below b1 hz.lt
      have hB1 := hB.trans (b1.mono hB.size)
      have z1_0 : w1.cell? ⟨w.heap.size + 1, 0, none⟩ = some (.slice none 0 0) := (hz1.cell 0).trans rfl
      have z1_1 : w1.cell? ⟨w.heap.size + 1, 1, none⟩ = some (.int .i64 0) := (hz1.cell 1).trans rfl
      have z1_f0 := hz1.frozen 0
      have z1_f1 := hz1.frozen 1
      have hk1 := hk.below b1 hk.lt
      have k1_0 : w1.cell? ⟨w.heap.size, 0, none⟩ = some (.slice A n c) := (hk1.cell 0).trans rfl
      have k1_1 : w1.cell? ⟨w.heap.size, 1, none⟩ = some (.int .i64 (k : Int)) := (hk1.cell 1).trans rfl

      go_wp2_with (go_at_call 103; refine (wide_any _ _).mono ?_; rintro e w2 ⟨rfl, rfl⟩; rw [HW.out])
      have b2 := Ext.al w1 (.cells #[.int .i64 (0), .int .i64 (2)] 26)
      have RF := (reads_row w1 [.int .i64 (0), .int .i64 (2)] 26).more (Nat.le_of_eq (alloc_size w1 (.cells #[.int .i64 (0), .int .i64 (2)] 26)).symm)
      clear z1_0 z1_1 z1_f0 z1_f1 k1_0 k1_1
      refine (fine_any _ 2 2 [0, 2] _ RF (by omega)).mono ?_
      rintro e w3 ⟨rfl, rfl⟩
      have hz2 := hz1.below b2 hz1.lt
      have hk2 := hk1.below b2 hk1.lt
      have hB2 := hB1.trans (Below.mono b2 hB1.size)
      generalize w1.alloc (.cells #[.int .i64 (0), .int .i64 (2)] 26) = w3 at *
      have z2_0 : w3.cell? ⟨w.heap.size + 1, 0, none⟩ = some (.slice none 0 0) := (hz2.cell 0).trans rfl
      have z2_1 : w3.cell? ⟨w.heap.size + 1, 1, none⟩ = some (.int .i64 0) := (hz2.cell 1).trans rfl
      have z2_f0 := hz2.frozen 0
      have z2_f1 := hz2.frozen 1
      have k2_0 : w3.cell? ⟨w.heap.size, 0, none⟩ = some (.slice A n c) := (hk2.cell 0).trans rfl
      have k2_1 : w3.cell? ⟨w.heap.size, 1, none⟩ = some (.int .i64 (k : Int)) := (hk2.cell 1).trans rfl
      have k2_f0 := hk2.frozen 0
      have k2_f1 := hk2.frozen 1
      rw [show fnE [0, 2] = 2 from rfl]

      go_wp2_with fail
      refine ret_c2 rfl curT rfl (by repeat (first | exact hz2 | apply Blk.set_ | (apply Blk.far; case hp => (simp <;> omega)) | apply Blk.alloc | apply Blk.drew)) (by rfl) ?_
      exact ⟨by rw [HV.out.1, HV.out.2, HE.out]; rfl, (by have hs_ := hB2.size; repeat (first | exact hB2 | refine Below.setCell ?_ (by simp <;> omega) _ | refine Below.alloc ?_ (by simp <;> omega) _ | refine Below.drew ?_))⟩

    · have HW := Lib.hid (show (if wdB wd then (0 : Int) else 2) = 0 from by rw [hw]; rfl)
      obtain ⟨v, hv, rfl⟩ : ∃ v : Nat, v ≤ 8 ∧ wd = (v : Int) := by
        rcases wdB_of hw with rfl | rfl | rfl | rfl
        · exact ⟨1, by omega, rfl⟩
        · exact ⟨2, by omega, rfl⟩
        · exact ⟨4, by omega, rfl⟩
        · exact ⟨8, by omega, rfl⟩
      have HE1 := Lib.hid (show ufE l (k : Int) (v : Int) = (if (n : Int) - (k : Int) < (v : Int) then 24 else 0) from by rw [HE0.out, hw]; rfl)
      clear hw HE0
      by_cases hs : n - k < v
      · have HE := Lib.hid (show ufE l (k : Int) (v : Int) = 24 from by rw [HE1.out, if_pos (by omega)])
        have HV := Lib.hid (uf_bad A n c HE.out (by decide))
        have d1 : decide ((n : Int) - (k : Int) < (v : Int)) = true := by simp; omega
        go_enter Try.func74, Try.ntmps74
        go_wp2_with fail
        refine (check_any A n c (k : Int) _).mono ?_
        rintro e w1 ⟨rfl, b1⟩
        rw [HC.out]
        have hz1 := hz.below b1 hz.lt
        have hB1 := hB.trans (b1.mono hB.size)
        have z1_0 : w1.cell? ⟨w.heap.size + 1, 0, none⟩ = some (.slice none 0 0) := (hz1.cell 0).trans rfl
        have z1_1 : w1.cell? ⟨w.heap.size + 1, 1, none⟩ = some (.int .i64 0) := (hz1.cell 1).trans rfl
        have z1_f0 := hz1.frozen 0
        have z1_f1 := hz1.frozen 1
        have hk1 := hk.below b1 hk.lt
        have k1_0 : w1.cell? ⟨w.heap.size, 0, none⟩ = some (.slice A n c) := (hk1.cell 0).trans rfl
        have k1_1 : w1.cell? ⟨w.heap.size, 1, none⟩ = some (.int .i64 (k : Int)) := (hk1.cell 1).trans rfl

        go_wp2_with (go_at_call 103; refine (wide_any _ _).mono ?_; rintro e w2 ⟨rfl, rfl⟩; rw [HW.out])
        have b2 := Ext.al w1 (.cells #[.int .i64 (0), .int .i64 (0)] 26)
        have RF := (reads_row w1 [.int .i64 (0), .int .i64 (0)] 26).more (Nat.le_of_eq (alloc_size w1 (.cells #[.int .i64 (0), .int .i64 (0)] 26)).symm)
        clear z1_0 z1_1 z1_f0 z1_f1 k1_0 k1_1
        refine (fine_any _ 2 2 [0, 0] _ RF (by omega)).mono ?_
        rintro e w3 ⟨rfl, rfl⟩
        have hz2 := hz1.below b2 hz1.lt
        have hk2 := hk1.below b2 hk1.lt
        have hB2 := hB1.trans (Below.mono b2 hB1.size)
        generalize w1.alloc (.cells #[.int .i64 (0), .int .i64 (0)] 26) = w3 at *
        have z2_0 : w3.cell? ⟨w.heap.size + 1, 0, none⟩ = some (.slice none 0 0) := (hz2.cell 0).trans rfl
        have z2_1 : w3.cell? ⟨w.heap.size + 1, 1, none⟩ = some (.int .i64 0) := (hz2.cell 1).trans rfl
        have z2_f0 := hz2.frozen 0
        have z2_f1 := hz2.frozen 1
        have k2_0 : w3.cell? ⟨w.heap.size, 0, none⟩ = some (.slice A n c) := (hk2.cell 0).trans rfl
        have k2_1 : w3.cell? ⟨w.heap.size, 1, none⟩ = some (.int .i64 (k : Int)) := (hk2.cell 1).trans rfl
        have k2_f0 := hk2.frozen 0
        have k2_f1 := hk2.frozen 1
        rw [show fnE [0, 0] = 0 from rfl]

        go_wp2_with fail
        refine ret_c2 rfl curT rfl (by repeat (first | exact hz2 | apply Blk.set_ | (apply Blk.far; case hp => (simp <;> omega)) | apply Blk.alloc | apply Blk.drew)) (by rfl) ?_
        exact ⟨by rw [HV.out.1, HV.out.2, HE.out]; rfl, (by have hs_ := hB2.size; repeat (first | exact hB2 | refine Below.setCell ?_ (by simp <;> omega) _ | refine Below.alloc ?_ (by simp <;> omega) _ | refine Below.drew ?_))⟩

      · have HE := Lib.hid (show ufE l (k : Int) (v : Int) = 0 from by rw [HE1.out, if_neg (by omega)])
        have HV := Lib.hid (show ufN l (k : Int) (v : Int) = unl ((l.drop k).take v) ∧ ufC A n c l (k : Int) (v : Int) = cur A n c ((k : Int) + v) from by simp [ufN, ufC, HE.out])
        have d1 : decide ((n : Int) - (k : Int) < (v : Int)) = false := by simp; omega
        have hkv : k + v ≤ n := by omega
        have i1 : (k : Int) + v ≤ (c : Int) := by omega
        have HS := sl_lh A n c k v (a := (k : Int)) (b := (k : Int) + v) rfl rfl (by omega)
        have HLS := Lib.hid (show ((l.drop k).take v).length = v from by rw [List.length_take, List.length_drop, HL.out]; omega)
        go_enter Try.func74, Try.ntmps74
        go_wp2_with fail
        refine (check_any A n c (k : Int) _).mono ?_
        rintro e w1 ⟨rfl, b1⟩
        rw [HC.out]
        have hz1 := hz.below b1 hz.lt
        have hB1 := hB.trans (b1.mono hB.size)
        have z1_0 : w1.cell? ⟨w.heap.size + 1, 0, none⟩ = some (.slice none 0 0) := (hz1.cell 0).trans rfl
        have z1_1 : w1.cell? ⟨w.heap.size + 1, 1, none⟩ = some (.int .i64 0) := (hz1.cell 1).trans rfl
        have z1_f0 := hz1.frozen 0
        have z1_f1 := hz1.frozen 1
        have hk1 := hk.below b1 hk.lt
        have k1_0 : w1.cell? ⟨w.heap.size, 0, none⟩ = some (.slice A n c) := (hk1.cell 0).trans rfl
        have k1_1 : w1.cell? ⟨w.heap.size, 1, none⟩ = some (.int .i64 (k : Int)) := (hk1.cell 1).trans rfl

        go_wp2_with (go_at_call 103; refine (wide_any _ _).mono ?_; rintro e w2 ⟨rfl, rfl⟩; rw [HW.out])
        have b2 := Ext.al w1 (.cells #[.int .i64 (0), .int .i64 (0)] 26)
        have RF := (reads_row w1 [.int .i64 (0), .int .i64 (0)] 26).more (Nat.le_of_eq (alloc_size w1 (.cells #[.int .i64 (0), .int .i64 (0)] 26)).symm)
        clear z1_0 z1_1 z1_f0 z1_f1 k1_0 k1_1
        refine (fine_any _ 2 2 [0, 0] _ RF (by omega)).mono ?_
        rintro e w3 ⟨rfl, rfl⟩
        have hz2 := hz1.below b2 hz1.lt
        have hk2 := hk1.below b2 hk1.lt
        have hB2 := hB1.trans (Below.mono b2 hB1.size)
        generalize w1.alloc (.cells #[.int .i64 (0), .int .i64 (0)] 26) = w3 at *
        have z2_0 : w3.cell? ⟨w.heap.size + 1, 0, none⟩ = some (.slice none 0 0) := (hz2.cell 0).trans rfl
        have z2_1 : w3.cell? ⟨w.heap.size + 1, 1, none⟩ = some (.int .i64 0) := (hz2.cell 1).trans rfl
        have z2_f0 := hz2.frozen 0
        have z2_f1 := hz2.frozen 1
        have k2_0 : w3.cell? ⟨w.heap.size, 0, none⟩ = some (.slice A n c) := (hk2.cell 0).trans rfl
        have k2_1 : w3.cell? ⟨w.heap.size, 1, none⟩ = some (.int .i64 (k : Int)) := (hk2.cell 1).trans rfl
        have k2_f0 := hk2.frozen 0
        have k2_f1 := hk2.frozen 1
        rw [show fnE [0, 0] = 0 from rfl]

        have RS := Lib.hid ((sub_reads (i := k) (v := v) (HR.out.below hB2) hkv hnc).more hB2.size)
        generalize (l.drop k).take v = s at *
        go_wp2_with fail
        go_loop [8, 40] (fun x i => ∃ j : Nat, j ≤ v ∧ i = .int .i64 (j : Int) ∧ x = .int .u64 (unl (s.take j) : Nat)) (fun _ i => v - (intOf i).toNat)
        case atStart => exact ⟨0, by omega, rfl, rfl⟩
        case round =>
          obtain ⟨j, hj, rfl, rfl⟩ := hrel
          by_cases hlt : j < v
          · obtain ⟨ad, z, hA, hb, hx, hc⟩ := RS.out.byte hlt
            have HT := Lib.hid (unl_take hx)
            have hor := or_fix (z := z.toNat) (j := j) (m := unl (s.take j)) (by omega) z.toNat_lt (by have := unl_lt (s.take j); rw [List.length_take, Nat.min_eq_left (by rw [HLS.out]; omega)] at this; exact this)
            rw [hA] at *
            go_wp2_with fail
            go_round
            case rel => exact ⟨j + 1, by omega, by go_num, by rw [HT.out]; simp⟩
            case measure => simp [intOf]; omega
          · have hjv : j = v := by omega
            have HT := Lib.hid (show s.take j = s from List.take_of_length_le (by rw [HLS.out]; omega))
            rw [HT.out]
            clear hjv
            go_wp2_with fail
            refine ret_c2 rfl curT rfl (by repeat (first | exact hz2 | apply Blk.set_ | (apply Blk.far; case hp => (simp <;> omega)) | apply Blk.alloc | apply Blk.drew)) (by rfl) ?_
            exact ⟨by rw [HV.out.1, HV.out.2, HE.out]; rfl, (by have hs_ := hB2.size; repeat (first | exact hB2 | refine Below.setCell ?_ (by simp <;> omega) _ | refine Below.alloc ?_ (by simp <;> omega) _ | refine Below.drew ?_))⟩

end Go.Proofs.Ytldaijkcmnnjpaa
