/- Contracts and laws of a chapter that its statement of names leans on. Each states its conditions. -/
import Derived.Test.YtldaijkcmnnjpaaWireUnvary
import Derived.Test.YtldaijkcmnnjpaaWireRdLaw
namespace Go.Proofs.Ytldaijkcmnnjpaa
open Go.RowKit Wire
set_option linter.unusedVariables false
/-- What Untext answers: the error, the string, the cursor. -/
def utE (l : List UInt8) (a mo : Int) : Int := if ckB l.length a then (if mo < 0 ∨ 200000 < mo then 2 else if uvE l a mo.toNat ≠ 0 then uvE l a mo.toNat else if (l.length : Int) - (a + (uvR l a).2.2) < (uvR l a).2.1 then 24 else 0) else 8
def utS (l : List UInt8) (a mo : Int) : ByteArray := if utE l a mo = 0 then ⟨((l.drop (a.toNat + (uvR l a).2.2)).take (uvR l a).2.1).toArray⟩ else ⟨#[]⟩
def utC (A : Option Addr) (n c : Nat) (l : List UInt8) (a mo : Int) : Value := if utE l a mo = 0 then cur A n c (a + (uvR l a).2.2 + (uvR l a).2.1) else cur none 0 0 0
theorem ut_bad {l : List UInt8} {a mo : Int} {e : Int} (A : Option Addr) (n c : Nat) (h : utE l a mo = e) (he : e ≠ 0) : utS l a mo = ⟨#[]⟩ ∧ utC A n c l a mo = cur none 0 0 0 := by
  subst h; simp [utS, utC, he]
theorem ut_ok {l : List UInt8} {a mo : Int} (A : Option Addr) (n c : Nat) (h : utE l a mo = 0) : utS l a mo = ⟨((l.drop (a.toNat + (uvR l a).2.2)).take (uvR l a).2.1).toArray⟩ ∧ utC A n c l a mo = cur A n c (a + (uvR l a).2.2 + (uvR l a).2.1) := by
  simp [utS, utC, h]
theorem uv_zero {l : List UInt8} {a : Int} {most : Nat} (h : uvE l a most = 0) : ckB l.length a = true ∧ (uvR l a).1 = 0 ∧ (uvR l a).2.1 ≤ most := by
  unfold uvE at h
  split at h
  · rename_i hc
    split at h
    · rename_i h1; exact absurd h h1
    · rename_i h1
      split at h
      · cases h
      · rename_i h2; exact ⟨hc, by simpa using h1, by omega⟩
  · cases h
theorem uvR_le {l : List UInt8} {a : Int} (h : (uvR l a).1 = 0) : (uvR l a).2.1 < 18446744073709551616 ∧ 0 < (uvR l a).2.2 ∧ a.toNat + (uvR l a).2.2 ≤ l.length ∧ (l.drop a.toNat).take (uvR l a).2.2 = vry (uvR l a).2.1 := by
  obtain ⟨h1, h2, h3, h4⟩ := rd_lt (l := l.drop a.toNat) h
  refine ⟨h1, h2, ?_, h4⟩
  have h5 : (uvR l a).2.2 ≤ (l.drop a.toNat).length := h3
  rw [List.length_drop] at h5
  have : 0 < (uvR l a).2.2 := h2
  omega
set_option maxRecDepth 100000 in
set_option maxHeartbeats 1600000 in
theorem untext_any (A : Option Addr) (n c : Nat) (l : List UInt8) (a mo : Int) (w : World) (hr : Rb w A n l) (hn : n ≤ 9223372036854775807) (hnc : n ≤ c) (ha : -9223372036854775808 ≤ a ∧ a ≤ 9223372036854775807) (hmo : -9223372036854775808 ≤ mo ∧ mo ≤ 9223372036854775807) :
    Calls Try.prog 106 #[cur A n c a, .int .i64 mo] w fun e w' => e = .returned (.tuple #[utC A n c l a mo, .string (utS l a mo), .int .i64 (utE l a mo)]) ∧ Below w.heap.size w w' := by
  have HL := Lib.hid hr.len8
  have HR := Lib.hid hr
  clear hr
  have hB0 := ((Below.refl w.heap.size w).alloc (Nat.le_refl _) (.cells #[.slice A n c, .int .i64 a] 70)).alloc (by simp) (.cells #[.slice none 0 0, .int .i64 0] 70)
  have hk0 := (Blk.new w 70 #[.slice A n c, .int .i64 a]).alloc (.cells #[.slice none 0 0, .int .i64 0] 70)
  have hz0 := Blk.new (w.alloc (.cells #[.slice A n c, .int .i64 a] 70)) 70 #[.slice none 0 0, .int .i64 0]
  rw [alloc_size] at hz0
  have hg := hz0.lt
  cases hck : ckB n a
  · have HC := Lib.hid (show ckE n a = 8 from by simp [ckE, hck])
    have HE2 := Lib.hid (show utE l a mo = 8 from by simp [utE, HL.out, hck])
    have HV := Lib.hid (ut_bad A n c HE2.out (by decide))
    clear hck
    go_enter Try.func106, Try.ntmps106
    go_wp2_with fail
    refine (check_any A n c a _).mono ?_
    rintro e w1 ⟨rfl, hb1⟩
    rw [HC.out]
    have hz1 := hz0.below hb1 hg
    have hB1 := hB0.trans (hb1.mono hB0.size)
    have hc1 : w1.cell? ⟨w.heap.size + 1, 0, none⟩ = some (.slice none 0 0) := (hz1.cell 0).trans rfl
    have hc2 : w1.cell? ⟨w.heap.size + 1, 1, none⟩ = some (.int .i64 0) := (hz1.cell 1).trans rfl
    have hf1 := hz1.frozen 0
    have hf2 := hz1.frozen 1
    go_wp2_with fail
    refine bodyPost_ret (v := .tuple #[cur none 0 0 0, .string ⟨#[]⟩, .int .i64 8]) ((results_arr_tmp2 (p := 4) (q := 5) (r := 6) rfl _ _ (w.heap.size + 1) _ #[.slice none 0 0, .int .i64 0] (0, 0) _ rfl ((hz1.set_ 0 (.slice none 0 0)).set_ 1 (.int .i64 0)) Try.underlying70 rfl (cur_sized _ _)).trans rfl) rfl ?_
    exact ⟨by rw [HV.out.1, HV.out.2, HE2.out], (hB1.setCell (p := ⟨w.heap.size + 1, 0, none⟩) (show w.heap.size ≤ w.heap.size + 1 by omega) _).setCell (p := ⟨w.heap.size + 1, 1, none⟩) (show w.heap.size ≤ w.heap.size + 1 by omega) _⟩
  · have HC := Lib.hid (show ckE n a = 0 from by simp [ckE, hck])
    have hcl : ckB l.length a = true := by rw [HL.out]; exact hck
    obtain ⟨h1, h2, h3⟩ := ck_ok hck
    obtain ⟨k, rfl⟩ : ∃ k : Nat, a = (k : Int) := ⟨a.toNat, by omega⟩
    by_cases hmm : mo < 0 ∨ 200000 < mo
    · have HE2 := Lib.hid (show utE l (k : Int) mo = 2 from by simp [utE, hcl, hmm])
      have HV := Lib.hid (ut_bad A n c HE2.out (by decide))
      have hd : (decide (mo < 0) || decide (200000 < mo)) = true := by simpa using hmm
      clear hck hcl
      have HMM := Lib.hid hmm
      clear hmm
      by_cases hneg : mo < 0
      · have d1 : decide (mo < 0) = true := by simpa using hneg
        go_enter Try.func106, Try.ntmps106
        go_wp2_with fail
        refine (check_any A n c (k : Int) _).mono ?_
        rintro e w1 ⟨rfl, hb1⟩
        rw [HC.out]
        have hz1 := hz0.below hb1 hg
        have hB1 := hB0.trans (hb1.mono hB0.size)
        have hc1 : w1.cell? ⟨w.heap.size + 1, 0, none⟩ = some (.slice none 0 0) := (hz1.cell 0).trans rfl
        have hc2 : w1.cell? ⟨w.heap.size + 1, 1, none⟩ = some (.int .i64 0) := (hz1.cell 1).trans rfl
        have hf1 := hz1.frozen 0
        have hf2 := hz1.frozen 1
        go_wp2_with fail
        refine bodyPost_ret (v := .tuple #[cur none 0 0 0, .string ⟨#[]⟩, .int .i64 2]) ((results_arr_tmp2 (p := 4) (q := 5) (r := 6) rfl _ _ (w.heap.size + 1) _ #[.slice none 0 0, .int .i64 0] (0, 0) _ rfl ((hz1.set_ 0 (.slice none 0 0)).set_ 1 (.int .i64 0)) Try.underlying70 rfl (cur_sized _ _)).trans rfl) rfl ?_
        exact ⟨by rw [HV.out.1, HV.out.2, HE2.out], (hB1.setCell (p := ⟨w.heap.size + 1, 0, none⟩) (show w.heap.size ≤ w.heap.size + 1 by omega) _).setCell (p := ⟨w.heap.size + 1, 1, none⟩) (show w.heap.size ≤ w.heap.size + 1 by omega) _⟩
      · have d1 : decide (mo < 0) = false := by simpa using hneg
        have d2 : decide ((200000 : Int) < mo) = true := by have := HMM.out; simp; omega
        go_enter Try.func106, Try.ntmps106
        go_wp2_with fail
        refine (check_any A n c (k : Int) _).mono ?_
        rintro e w1 ⟨rfl, hb1⟩
        rw [HC.out]
        have hz1 := hz0.below hb1 hg
        have hB1 := hB0.trans (hb1.mono hB0.size)
        have hc1 : w1.cell? ⟨w.heap.size + 1, 0, none⟩ = some (.slice none 0 0) := (hz1.cell 0).trans rfl
        have hc2 : w1.cell? ⟨w.heap.size + 1, 1, none⟩ = some (.int .i64 0) := (hz1.cell 1).trans rfl
        have hf1 := hz1.frozen 0
        have hf2 := hz1.frozen 1
        go_wp2_with fail
        refine bodyPost_ret (v := .tuple #[cur none 0 0 0, .string ⟨#[]⟩, .int .i64 2]) ((results_arr_tmp2 (p := 4) (q := 5) (r := 6) rfl _ _ (w.heap.size + 1) _ #[.slice none 0 0, .int .i64 0] (0, 0) _ rfl ((hz1.set_ 0 (.slice none 0 0)).set_ 1 (.int .i64 0)) Try.underlying70 rfl (cur_sized _ _)).trans rfl) rfl ?_
        exact ⟨by rw [HV.out.1, HV.out.2, HE2.out], (hB1.setCell (p := ⟨w.heap.size + 1, 0, none⟩) (show w.heap.size ≤ w.heap.size + 1 by omega) _).setCell (p := ⟨w.heap.size + 1, 1, none⟩) (show w.heap.size ≤ w.heap.size + 1 by omega) _⟩
    · have d1 : decide (mo < 0) = false := by simp; omega
      have d2 : decide ((200000 : Int) < mo) = false := by simp; omega
      obtain ⟨q, rfl⟩ : ∃ q : Nat, mo = (q : Int) := ⟨mo.toNat, by omega⟩
      have hq : q ≤ 200000 := by omega
      have HE := Lib.hid (show utE l (k : Int) (q : Int) = (if uvE l (k : Int) q ≠ 0 then uvE l (k : Int) q else if (l.length : Int) - ((k : Int) + (uvR l (k : Int)).2.2) < (uvR l (k : Int)).2.1 then 24 else 0) from by
        unfold utE; rw [if_pos hcl, if_neg hmm, Int.toNat_natCast])
      clear hck hmm hcl
      have HU := Lib.hid (fun W (h : Rb W A n l) => unvary_any A n c l (k : Int) q W h hn (by omega) ha)
      by_cases he : uvE l (k : Int) q = 0
      · have HO := Lib.hid (uv_ok A n c he)
        obtain ⟨hu1, hu2, hu3⟩ := uv_zero he
        obtain ⟨hv1, hv2, hv3, hv4⟩ := uvR_le hu2
        rw [Int.toNat_natCast, HL.out] at hv3
        have HE3 := Lib.hid (show utE l (k : Int) (q : Int) = (if (n : Int) - ((k : Int) + (uvR l (k : Int)).2.2) < (uvR l (k : Int)).2.1 then 24 else 0) from by rw [HE.out, if_neg (by simp [he]), HL.out])
        have HT := Lib.hid (fun h => ut_ok (l := l) (a := (k : Int)) (mo := (q : Int)) A n c h)
        have HTB := Lib.hid (fun h => ut_bad (l := l) (a := (k : Int)) (mo := (q : Int)) (e := 24) A n c h (by decide))
        have HE4 := Lib.hid he
        have hB0' := HR.out.mv (hB0.mono (Nat.le_refl _))
        clear hu1 hu2 hv4 he HE hv1
        generalize (uvR l (k : Int)).2.1 = v at *
        generalize (uvR l (k : Int)).2.2 = r at *
        go_enter Try.func106, Try.ntmps106
        go_wp2_with fail
        refine (check_any A n c (k : Int) _).mono ?_
        rintro e w1 ⟨rfl, hb1⟩
        rw [HC.out]
        have hz1 := hz0.below hb1 hg
        have hk1 := hk0.below hb1 (by omega)
        have hB1 := hB0.trans (hb1.mono hB0.size)
        have ck0 : w1.cell? ⟨w.heap.size, 0, none⟩ = some (.slice A n c) := (hk1.cell 0).trans rfl
        have ck1 : w1.cell? ⟨w.heap.size, 1, none⟩ = some (.int .i64 (k : Int)) := (hk1.cell 1).trans rfl
        go_wp2_with fail
        refine (HU.out _ (HR.out.mv hB1)).mono ?_
        rintro e w2 ⟨rfl, hb2⟩
        rw [HO.out.1, HO.out.2, HE4.out]
        have hz2 := hz1.below hb2 hz1.lt
        have hB2 := hB1.trans (hb2.mono hB1.size)
        have hk8 := Blk.new w2 70 #[.slice A n c, .int .i64 ((k : Int) + r)]
        have hz3 := hz2.alloc (.cells #[.slice A n c, .int .i64 ((k : Int) + r)] 70)
        have hB3 := hB2.alloc hB2.size (.cells #[.slice A n c, .int .i64 ((k : Int) + r)] 70)
        have hR3 := HR.out.mv hB3
        have hne : w2.heap.size ≠ w.heap.size + 1 := fun e => by have := hz2.lt; omega
        have hc1 : (w2.alloc (.cells #[.slice A n c, .int .i64 ((k : Int) + r)] 70)).cell? ⟨w.heap.size + 1, 0, none⟩ = some (.slice none 0 0) := (hz3.cell 0).trans rfl
        have hc2 : (w2.alloc (.cells #[.slice A n c, .int .i64 ((k : Int) + r)] 70)).cell? ⟨w.heap.size + 1, 1, none⟩ = some (.int .i64 0) := (hz3.cell 1).trans rfl
        have hf1 := hz3.frozen 0
        have hf2 := hz3.frozen 1
        have i0 : (0 : Int) ≤ (k : Int) + r := by omega
        by_cases hsh : (n : Int) - ((k : Int) + r) < v
        · have d3 : decide ((n : Int) - ((k : Int) + r) < (v : Int)) = true := by simpa using hsh
          have HE2 := Lib.hid (show utE l (k : Int) (q : Int) = 24 from by rw [HE3.out, if_pos hsh])
          have HV := Lib.hid (HTB.out HE2.out)
          clear HTB HT HE3 HU HO
          go_wp2_with fail
          refine bodyPost_ret (v := .tuple #[cur none 0 0 0, .string ⟨#[]⟩, .int .i64 24]) ((results_arr_tmp2 (p := 4) (q := 5) (r := 6) rfl _ _ (w.heap.size + 1) _ #[.slice none 0 0, .int .i64 0] (0, 0) _ rfl ((hz3.set_ 0 (.slice none 0 0)).set_ 1 (.int .i64 0)) Try.underlying70 rfl (cur_sized _ _)).trans rfl) rfl ?_
          exact ⟨by rw [HV.out.1, HV.out.2, HE2.out], (hB3.setCell (p := ⟨w.heap.size + 1, 0, none⟩) (show w.heap.size ≤ w.heap.size + 1 by omega) _).setCell (p := ⟨w.heap.size + 1, 1, none⟩) (show w.heap.size ≤ w.heap.size + 1 by omega) _⟩
        · have d3 : decide ((n : Int) - ((k : Int) + r) < (v : Int)) = false := by simpa using hsh
          have HE2 := Lib.hid (show utE l (k : Int) (q : Int) = 0 from by rw [HE3.out, if_neg hsh])
          have HV := Lib.hid (HT.out HE2.out)
          clear HTB HT HE3 HU HO
          have i1 : (k : Int) + r ≤ (k : Int) + r + v := by omega
          have i2 : (k : Int) + r + v ≤ (n : Int) := by omega
          have i3 : (k : Int) + r + v ≤ (c : Int) := by omega
          have hz4 := hz2.alloc (.cells #[.slice A n c, .int .i64 ((k : Int) + r + v)] 70)
          have hB4 := hB2.alloc hB2.size (.cells #[.slice A n c, .int .i64 ((k : Int) + r + v)] 70)
          have hc1' : (w2.alloc (.cells #[.slice A n c, .int .i64 ((k : Int) + r + v)] 70)).cell? ⟨w.heap.size + 1, 0, none⟩ = some (.slice none 0 0) := (hz4.cell 0).trans rfl
          have hc2' : (w2.alloc (.cells #[.slice A n c, .int .i64 ((k : Int) + r + v)] 70)).cell? ⟨w.heap.size + 1, 1, none⟩ = some (.int .i64 0) := (hz4.cell 1).trans rfl
          have hf1' := hz4.frozen 0
          have hf2' := hz4.frozen 1
          have hsub := reads_sub (i := k + r) (v := v) hR3 (by omega) hnc
          by_cases hcr : c = k + r
          · rw [if_pos hcr] at hsub
            have K := cvS 0 hsub
            clear hsub
            subst hcr
            go_wp2_with fail
            refine bodyPost_ret (v := .tuple #[cur A n (k + r) ((k : Int) + r + v), .string ⟨((l.drop (k + r)).take v).toArray⟩, .int .i64 0]) ((results_arr_tmp2 (p := 4) (q := 5) (r := 6) rfl _ _ (w.heap.size + 1) _ #[.slice A n (k + r), .int .i64 ((k : Int) + r + v)] (0, 0) _ rfl ((hz4.set_ 0 (.slice A n (k + r))).set_ 1 (.int .i64 ((k : Int) + r + v))) Try.underlying70 rfl (cur_sized _ _)).trans rfl) rfl ?_
            exact ⟨by rw [HV.out.1, HV.out.2, HE2.out, Int.toNat_natCast], (hB4.setCell (p := ⟨w.heap.size + 1, 0, none⟩) (show w.heap.size ≤ w.heap.size + 1 by omega) _).setCell (p := ⟨w.heap.size + 1, 1, none⟩) (show w.heap.size ≤ w.heap.size + 1 by omega) _⟩
          · rw [if_neg hcr] at hsub
            have K := cvS (c - (k + r)) hsub
            clear hsub
            go_wp2_with fail
            refine bodyPost_ret (v := .tuple #[cur A n c ((k : Int) + r + v), .string ⟨((l.drop (k + r)).take v).toArray⟩, .int .i64 0]) ((results_arr_tmp2 (p := 4) (q := 5) (r := 6) rfl _ _ (w.heap.size + 1) _ #[.slice A n c, .int .i64 ((k : Int) + r + v)] (0, 0) _ rfl ((hz4.set_ 0 (.slice A n c)).set_ 1 (.int .i64 ((k : Int) + r + v))) Try.underlying70 rfl (cur_sized _ _)).trans rfl) rfl ?_
            exact ⟨by rw [HV.out.1, HV.out.2, HE2.out, Int.toNat_natCast], (hB4.setCell (p := ⟨w.heap.size + 1, 0, none⟩) (show w.heap.size ≤ w.heap.size + 1 by omega) _).setCell (p := ⟨w.heap.size + 1, 1, none⟩) (show w.heap.size ≤ w.heap.size + 1 by omega) _⟩
      · have HE2 := Lib.hid (show utE l (k : Int) (q : Int) = uvE l (k : Int) q from by rw [HE.out, if_pos he])
        have HV := Lib.hid (ut_bad (l := l) (a := (k : Int)) (mo := (q : Int)) A n c HE2.out he)
        have HO := Lib.hid (uv_bad (l := l) (a := (k : Int)) (most := q) A n c rfl he)
        have d3 : (uvE l (k : Int) q == 0) = false := by rw [beq_eq_false_iff_ne]; exact he
        clear HE he
        generalize uvE l (k : Int) q = e0 at *
        generalize uvN l (k : Int) q = v0 at *
        generalize uvC A n c l (k : Int) q = u0 at *
        obtain ⟨rfl, rfl⟩ := HO.out
        go_enter Try.func106, Try.ntmps106
        go_wp2_with fail
        refine (check_any A n c (k : Int) _).mono ?_
        rintro e w1 ⟨rfl, hb1⟩
        rw [HC.out]
        have hz1 := hz0.below hb1 hg
        have hk1 := hk0.below hb1 (by omega)
        have hB1 := hB0.trans (hb1.mono hB0.size)
        have ck0 : w1.cell? ⟨w.heap.size, 0, none⟩ = some (.slice A n c) := (hk1.cell 0).trans rfl
        have ck1 : w1.cell? ⟨w.heap.size, 1, none⟩ = some (.int .i64 (k : Int)) := (hk1.cell 1).trans rfl
        go_wp2_with fail
        refine (HU.out _ (HR.out.mv hB1)).mono ?_
        rintro e w2 ⟨rfl, hb2⟩
        have hz2 := hz1.below hb2 hz1.lt
        have hB2 := hB1.trans (hb2.mono hB1.size)
        have hz3 := hz2.alloc (.cells #[.slice none 0 0, .int .i64 0] 70)
        have hB3 := hB2.alloc hB2.size (.cells #[.slice none 0 0, .int .i64 0] 70)
        have hc1 : (w2.alloc (.cells #[.slice none 0 0, .int .i64 0] 70)).cell? ⟨w.heap.size + 1, 0, none⟩ = some (.slice none 0 0) := (hz3.cell 0).trans rfl
        have hc2 : (w2.alloc (.cells #[.slice none 0 0, .int .i64 0] 70)).cell? ⟨w.heap.size + 1, 1, none⟩ = some (.int .i64 0) := (hz3.cell 1).trans rfl
        have hf1 := hz3.frozen 0
        have hf2 := hz3.frozen 1
        clear HU HO
        go_wp2_with fail
        refine bodyPost_ret (v := .tuple #[cur none 0 0 0, .string ⟨#[]⟩, .int .i64 e0]) ((results_arr_tmp2 (p := 4) (q := 5) (r := 6) rfl _ _ (w.heap.size + 1) _ #[.slice none 0 0, .int .i64 0] (0, 0) _ rfl ((hz3.set_ 0 (.slice none 0 0)).set_ 1 (.int .i64 0)) Try.underlying70 rfl (cur_sized _ _)).trans rfl) rfl ?_
        exact ⟨by rw [HV.out.1, HV.out.2, HE2.out], (hB3.setCell (p := ⟨w.heap.size + 1, 0, none⟩) (show w.heap.size ≤ w.heap.size + 1 by omega) _).setCell (p := ⟨w.heap.size + 1, 1, none⟩) (show w.heap.size ≤ w.heap.size + 1 by omega) _⟩

end Go.Proofs.Ytldaijkcmnnjpaa
