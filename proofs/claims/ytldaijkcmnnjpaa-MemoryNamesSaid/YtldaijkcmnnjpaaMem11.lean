/- Contracts and laws of a chapter that its statement of names leans on. Each states its conditions. -/
import Derived.Test.YtldaijkcmnnjpaaMem10
namespace Go.Proofs.Ytldaijkcmnnjpaa
open Go.RowKit Wire
set_option linter.unusedVariables false
/-- Whether bytes are those of a heap. -/
def rhB (l : List UInt8) : Bool := decide ((uvR l 0).1 = 0) && (decide ((uvR l 0).2.2 + (uvR l 0).2.1 = l.length) && hpB 65536 (uvR l 0).2.1)
def rhN (l : List UInt8) : Nat := if rhB l then 65536 else 0
def rhL (l : List UInt8) : List UInt8 := if rhB l then l.drop (uvR l 0).2.2 else []
def rhE (l : List UInt8) : Int := if rhB l then 0 else 12
def RhP (w : World) (l : List UInt8) (e : Ending) (w' : World) : Prop :=
  ∃ A' c', e = .returned (.tuple #[rgn (rhN l) A' (rhL l).length c', .int .i64 (rhE l)]) ∧ OwU w' w.heap.size A' (rhL l).length (rhL l) ∧ ((rhL l).length ≤ c' ∧ c' ≤ 9223372036854775807) ∧ Below w.heap.size w w'
theorem rh_no {l : List UInt8} (h : rhB l = false) : rhN l = 0 ∧ rhL l = [] ∧ rhE l = 12 := by simp [rhN, rhL, rhE, h]
theorem rh_yes {l : List UInt8} (h : rhB l = true) : rhN l = 65536 ∧ rhL l = l.drop (uvR l 0).2.2 ∧ rhE l = 0 := by simp [rhN, rhL, rhE, h]
/-- Untext from the beginning, with at most so many bytes. -/
theorem ut_zero {l : List UInt8} {a mo : Int} (h : utE l a mo = 0) : (uvR l a).1 = 0 ∧ ((uvR l a).2.1 : Int) ≤ mo ∧ a + (uvR l a).2.2 + (uvR l a).2.1 ≤ l.length ∧ 0 ≤ a ∧ l.length ≤ 200000 := by
  unfold utE at h
  by_cases h1 : ckB l.length a = true
  · rw [if_pos h1] at h
    have hk := ck_ok h1
    by_cases h2 : mo < 0 ∨ 200000 < mo
    · rw [if_pos h2] at h; omega
    rw [if_neg h2] at h
    by_cases h3 : uvE l a mo.toNat ≠ 0
    · rw [if_pos h3] at h; exact absurd h h3
    rw [if_neg h3] at h
    have h3' : uvE l a mo.toNat = 0 := by simpa using h3
    have hz := uv_zero h3'
    by_cases h4 : (l.length : Int) - (a + (uvR l a).2.2) < (uvR l a).2.1
    · rw [if_pos h4] at h; omega
    have := hz.2.2
    exact ⟨hz.2.1, by omega, by omega, by omega, by omega⟩
  · rw [if_neg h1] at h; omega
theorem ut_none {l : List UInt8} {a mo : Int} (ha : 0 ≤ a ∧ a ≤ l.length) (hl : l.length ≤ 200000) (hm : 0 ≤ mo ∧ mo ≤ 200000) (h : utE l a mo ≠ 0) : (uvR l a).1 ≠ 0 ∨ mo < (uvR l a).2.1 ∨ (l.length : Int) < a + (uvR l a).2.2 + (uvR l a).2.1 := by
  unfold utE at h
  have h1 : ckB l.length a = true := by simp only [ckB, Bool.and_eq_true, decide_eq_true_eq]; omega
  rw [if_pos h1, if_neg (by omega)] at h
  by_cases h3 : uvE l a mo.toNat ≠ 0
  · unfold uvE at h3
    rw [if_pos h1] at h3
    by_cases h4 : (uvR l a).1 ≠ 0
    · exact .inl h4
    · rw [if_neg h4] at h3
      by_cases h5 : mo.toNat < (uvR l a).2.1
      · exact .inr (.inl (by omega))
      · rw [if_neg h5] at h3; exact absurd rfl h3
  · rw [if_neg h3] at h
    by_cases h4 : (l.length : Int) - (a + (uvR l a).2.2) < (uvR l a).2.1
    · exact .inr (.inr (by omega))
    · rw [if_neg h4] at h; exact absurd rfl h
set_option maxRecDepth 100000 in
set_option maxHeartbeats 3200000 in
theorem readHeap_any (A : Option Addr) (n c : Nat) (l : List UInt8) (w : World) (hr : Rb w A n l) (hn : l.length ≤ 200000) :
    Calls Try.prog 37 #[.slice A n c] w fun e w' => RhP w l e w' := by
  have hl := hr.len8
  subst hl
  have HR := Lib.hid hr
  clear hr
  have HW := Lib.hid (show nwL l = l ∧ nwE l = 0 from by constructor <;> simp [nwL, nwE, hn])
  by_cases ht : utE l 0 16384 = 0
  rotate_left
  · have hno := ut_none (l := l) (a := 0) (mo := 16384) (by omega) hn (by omega) ht
    have HV := Lib.hid (rh_no (l := l) (by
      rcases hno with h | h | h
      · simp [rhB, h]
      · simp [rhB, hpB, fitB]; omega
      · simp [rhB]; omega))
    obtain ⟨f, hf⟩ : ∃ f, utE l 0 16384 = f := ⟨_, rfl⟩
    have d1 : decide (f = 0) = false := by rw [decide_eq_false_iff_not, ← hf]; exact ht
    have hb := ut_bad (l := l) (a := 0) (mo := 16384) (e := f) A 0 0 hf (by rw [← hf]; exact ht)
    obtain ⟨S, hS⟩ : ∃ S : ByteArray, S = ⟨#[]⟩ := ⟨_, rfl⟩
    have HT := Lib.hid (show utS l 0 16384 = S ∧ (∀ A n c, utC A n c l 0 16384 = cur none 0 0 0) ∧ decide (utE l 0 16384 = 0) = false from ⟨hb.1.trans hS.symm, fun A n c => (ut_bad A n c hf (by rw [← hf]; exact ht)).2, by rw [hf]; exact d1⟩)
    clear hno hb hS ht hf
    have hB : Below w.heap.size w (w.alloc (.cells #[.int .u64 0, .slice none 0 0] 75)) := (Below.alloc (Below.refl w.heap.size w) (by simp <;> omega) (.cells #[.int .u64 0, .slice none 0 0] 75))
    have hr := Blk.new w 75 #[.int .u64 0, .slice none 0 0]
    go_enter Try.func37, Try.ntmps37
    have z1 : (w.alloc (.cells #[.int .u64 0, .slice none 0 0] 75)).cell? ⟨w.heap.size, 0, none⟩ = some (.int .u64 0) := (hr.cell 0).trans rfl
    have z2 := hr.frozen 0
    have z3 : (w.alloc (.cells #[.int .u64 0, .slice none 0 0] 75)).cell? ⟨w.heap.size, 1, none⟩ = some (.slice none 0 0) := (hr.cell 1).trans rfl
    have z4 := hr.frozen 1
    have z5 := hr.lt
    go_wp2_with fail
    refine (new_any A l.length c l _ (HR.out.mv hB) (by omega)).mono ?_
    rintro e w3 ⟨A1, c1, rfl, o1, b⟩
    rw [HW.out.1, HW.out.2] at *
    have ne_o1_hr : (Value.slice A1 l.length c1).ownBlock ≠ some w.heap.size := own_not_lt o1 (by simp <;> omega)
    replace o1 := own_low o1 (show w.heap.size ≤ _ from by have hs_ := hB.size; simp <;> omega)
    replace hr := Blk.via0 (g := w.heap.size) (t := 75) b (by repeat (first | with_reducible exact hr | with_reducible (apply Blk.set_) | with_reducible (apply Blk.far; case hp => (simp <;> omega)) | with_reducible (apply Blk.alloc) | with_reducible (apply Blk.drew)))
    replace hr : Blk w3 w.heap.size 75 #[.int .u64 0, .slice none 0 0] := hr
    replace hB := Below.via (w := w) (by have hs_ := hB.size; repeat (first | with_reducible exact hB | with_reducible (refine Below.setCell ?_ (by simp <;> omega) _) | with_reducible (refine Below.alloc ?_ (by first | exact hs_ | (simp <;> omega)) _) | with_reducible (refine Below.drew ?_))) b
    clear z1 z2 z3 z4 z5
    clear b
    have z6 : w3.cell? ⟨w.heap.size, 0, none⟩ = some (.int .u64 0) := (hr.cell 0).trans rfl
    have z7 := hr.frozen 0
    have z8 : w3.cell? ⟨w.heap.size, 1, none⟩ = some (.slice none 0 0) := (hr.cell 1).trans rfl
    have z9 := hr.frozen 1
    have z10 := hr.lt
    go_wp2_with fail
    have hcc := own_cap o1
    unfold maxLen at hcc
    refine (read26p_any A1 l.length c1 l 0 16384 65536 _ (own_rd (by repeat (first | with_reducible exact o1 | (with_reducible apply own_set_; case hne => first | exact ne_o1_hr) | with_reducible (apply own_alloc_) | with_reducible (apply own_drew_)))) (by omega) (by omega) (by omega) (by omega)).mono ?_
    rintro e w4 ⟨A2, c2, rfl, o2, hc2, b⟩
    rw [HT.out.1, HT.out.2.1, HT.out.2.2] at *
    have ne_o2_hr : (Value.slice A2 S.size c2).ownBlock ≠ some w.heap.size := OwU.not_lt o2 (by simp <;> omega)
    have ne_o2_hc : (Value.slice A2 S.size c2).ownBlock ≠ some w3.heap.size := OwU.not_lt o2 (by simp <;> omega)
    replace o2 := OwU.low o2 (show w.heap.size ≤ _ from by have hs_ := hB.size; simp <;> omega)
    have ne_o1_hc : (Value.slice A1 l.length c1).ownBlock ≠ some w3.heap.size := own_not_ge o1 (by omega)
    have o_hr_hc : w.heap.size < w3.heap.size := (by omega)
    replace hr := Blk.via0 (g := w.heap.size) (t := 75) b (by repeat (first | with_reducible exact hr | with_reducible (apply Blk.set_) | with_reducible (apply Blk.far; case hp => (simp <;> omega)) | with_reducible (apply Blk.alloc) | with_reducible (apply Blk.drew)))
    replace hr : Blk w4 w.heap.size 75 #[.int .u64 0, .slice none 0 0] := hr
    replace o1 := own_call (by repeat (first | with_reducible exact o1 | (with_reducible apply own_set_; case hne => first | exact ne_o1_hr) | with_reducible (apply own_alloc_) | with_reducible (apply own_drew_))) b
    have hc := Blk.via0 (g := w3.heap.size) (t := 70) b (by repeat (first | with_reducible exact Blk.newAt (by simp) _ _ | with_reducible (apply Blk.set_) | with_reducible (apply Blk.far; case hp => (simp <;> omega)) | with_reducible (apply Blk.alloc) | with_reducible (apply Blk.drew)))
    replace hc : Blk w4 w3.heap.size 70 #[.slice A1 l.length c1, .int .i64 0] := hc
    replace hB := Below.via (w := w) (by have hs_ := hB.size; repeat (first | with_reducible exact hB | with_reducible (refine Below.setCell ?_ (by simp <;> omega) _) | with_reducible (refine Below.alloc ?_ (by first | exact hs_ | (simp <;> omega)) _) | with_reducible (refine Below.drew ?_))) b
    clear z6 z7 z8 z9 z10
    clear b
    generalize w3.heap.size = pc at *
    have z11 : w4.cell? ⟨w.heap.size, 0, none⟩ = some (.int .u64 0) := (hr.cell 0).trans rfl
    have z12 := hr.frozen 0
    have z13 : ∀ ob_, (w4.alloc ob_).cell? ⟨w.heap.size, 0, none⟩ = some (.int .u64 0) := fun ob_ => ((Blk.alloc hr ob_).cell 0).trans rfl
    have z14 : ∀ ob_, (w4.alloc ob_).frozen? ⟨w.heap.size, 0, none⟩ = false := fun ob_ => (Blk.alloc hr ob_).frozen 0
    have z15 : w4.cell? ⟨w.heap.size, 1, none⟩ = some (.slice none 0 0) := (hr.cell 1).trans rfl
    have z16 := hr.frozen 1
    have z17 : ∀ ob_, (w4.alloc ob_).cell? ⟨w.heap.size, 1, none⟩ = some (.slice none 0 0) := fun ob_ => ((Blk.alloc hr ob_).cell 1).trans rfl
    have z18 : ∀ ob_, (w4.alloc ob_).frozen? ⟨w.heap.size, 1, none⟩ = false := fun ob_ => (Blk.alloc hr ob_).frozen 1
    have z19 : w4.cell? ⟨pc, 0, none⟩ = some (.slice A1 l.length c1) := (hc.cell 0).trans rfl
    have z20 := hc.frozen 0
    have z21 : ∀ ob_, (w4.alloc ob_).cell? ⟨pc, 0, none⟩ = some (.slice A1 l.length c1) := fun ob_ => ((Blk.alloc hc ob_).cell 0).trans rfl
    have z22 : ∀ ob_, (w4.alloc ob_).frozen? ⟨pc, 0, none⟩ = false := fun ob_ => (Blk.alloc hc ob_).frozen 0
    have z23 : w4.cell? ⟨pc, 1, none⟩ = some (.int .i64 0) := (hc.cell 1).trans rfl
    have z24 := hc.frozen 1
    have z25 : ∀ ob_, (w4.alloc ob_).cell? ⟨pc, 1, none⟩ = some (.int .i64 0) := fun ob_ => ((Blk.alloc hc ob_).cell 1).trans rfl
    have z26 : ∀ ob_, (w4.alloc ob_).frozen? ⟨pc, 1, none⟩ = false := fun ob_ => (Blk.alloc hc ob_).frozen 1
    have z27 := hr.lt
    have z28 := hc.lt
    go_wp2_with fail
    refine ret_c1 rfl regT rfl (by repeat (first | with_reducible exact hr | with_reducible (apply Blk.set_) | with_reducible (apply Blk.far; case hp => (simp <;> omega)) | with_reducible (apply Blk.alloc) | with_reducible (apply Blk.drew))) (by rfl) ?_
    unfold RhP
    exact ⟨none, 0, by rw [HV.out.1, HV.out.2.1, HV.out.2.2]; rfl, by rw [HV.out.2.1]; exact OwU.nil _ _, by rw [HV.out.2.1]; simp, (by have hs_ := hB.size; repeat (first | with_reducible exact hB | with_reducible (refine Below.setCell ?_ (by simp <;> omega) _) | with_reducible (refine Below.alloc ?_ (by first | exact hs_ | (simp <;> omega)) _) | with_reducible (refine Below.drew ?_)))⟩
  have hok := ut_zero ht
  have hle := uvR_le hok.1
  obtain ⟨u, hu⟩ : ∃ u, (uvR l 0).2.2 = u := ⟨_, rfl⟩
  obtain ⟨x, hx⟩ : ∃ x, (uvR l 0).2.1 = x := ⟨_, rfl⟩
  obtain ⟨S, hS⟩ : ∃ S, utS l 0 16384 = S := ⟨_, rfl⟩
  have hut := ut_ok (l := l) (a := 0) (mo := 16384) A 0 0 ht
  rw [hu, hx] at hok
  have hbx : u + x ≤ l.length := by omega
  have hSz : S.data.toList = (l.drop u).take x := by rw [← hS, hut.1, hu, hx]; simp
  have hSs : S.size = x := by
    have h : S.data.toList.length = S.size := by simp
    rw [← h, hSz, List.length_take, List.length_drop]; omega
  obtain ⟨q, hq⟩ : ∃ q, u + x = q := ⟨_, rfl⟩
  have hql : q ≤ l.length := by omega
  have HT := Lib.hid (show utS l 0 16384 = S ∧ (∀ A n c, utC A n c l 0 16384 = cur A n c (q : Int)) ∧ decide (utE l 0 16384 = 0) = true from ⟨hS, fun A n c => by rw [(ut_ok A n c ht).2, hu, hx, show (0 : Int) + (u : Int) + (x : Int) = (q : Int) from by omega], by rw [ht]; rfl⟩)
  have HR0 := Lib.hid (show rhB l = (decide (q = l.length) && hpB 65536 S.size) from by rw [rhB, hu, hx, hok.1, hq, hSs]; simp)
  have HSD := Lib.hid (show q = l.length → S.data.toList = l.drop u from fun h => by rw [hSz, List.take_of_length_le (by rw [List.length_drop]; omega)])
  have HU := Lib.hid hu
  clear hok hle hx hS hut hbx hSz hSs hq ht hu
  by_cases hql2 : q = l.length
  rotate_left
  · have HD := Lib.hid (show decide (q = l.length) = false from by rw [decide_eq_false_iff_not]; exact hql2)
    have HV := Lib.hid (rh_no (l := l) (by rw [HR0.out, HD.out]; rfl))
    clear hql2
    have hB : Below w.heap.size w (w.alloc (.cells #[.int .u64 0, .slice none 0 0] 75)) := (Below.alloc (Below.refl w.heap.size w) (by simp <;> omega) (.cells #[.int .u64 0, .slice none 0 0] 75))
    have hr := Blk.new w 75 #[.int .u64 0, .slice none 0 0]
    go_enter Try.func37, Try.ntmps37
    have z1 : (w.alloc (.cells #[.int .u64 0, .slice none 0 0] 75)).cell? ⟨w.heap.size, 0, none⟩ = some (.int .u64 0) := (hr.cell 0).trans rfl
    have z2 := hr.frozen 0
    have z3 : (w.alloc (.cells #[.int .u64 0, .slice none 0 0] 75)).cell? ⟨w.heap.size, 1, none⟩ = some (.slice none 0 0) := (hr.cell 1).trans rfl
    have z4 := hr.frozen 1
    have z5 := hr.lt
    go_wp2_with fail
    refine (new_any A l.length c l _ (HR.out.mv hB) (by omega)).mono ?_
    rintro e w3 ⟨A1, c1, rfl, o1, b⟩
    rw [HW.out.1, HW.out.2] at *
    have ne_o1_hr : (Value.slice A1 l.length c1).ownBlock ≠ some w.heap.size := own_not_lt o1 (by simp <;> omega)
    replace o1 := own_low o1 (show w.heap.size ≤ _ from by have hs_ := hB.size; simp <;> omega)
    replace hr := Blk.via0 (g := w.heap.size) (t := 75) b (by repeat (first | with_reducible exact hr | with_reducible (apply Blk.set_) | with_reducible (apply Blk.far; case hp => (simp <;> omega)) | with_reducible (apply Blk.alloc) | with_reducible (apply Blk.drew)))
    replace hr : Blk w3 w.heap.size 75 #[.int .u64 0, .slice none 0 0] := hr
    replace hB := Below.via (w := w) (by have hs_ := hB.size; repeat (first | with_reducible exact hB | with_reducible (refine Below.setCell ?_ (by simp <;> omega) _) | with_reducible (refine Below.alloc ?_ (by first | exact hs_ | (simp <;> omega)) _) | with_reducible (refine Below.drew ?_))) b
    clear z1 z2 z3 z4 z5
    clear b
    have z6 : w3.cell? ⟨w.heap.size, 0, none⟩ = some (.int .u64 0) := (hr.cell 0).trans rfl
    have z7 := hr.frozen 0
    have z8 : w3.cell? ⟨w.heap.size, 1, none⟩ = some (.slice none 0 0) := (hr.cell 1).trans rfl
    have z9 := hr.frozen 1
    have z10 := hr.lt
    go_wp2_with fail
    have hcc := own_cap o1
    unfold maxLen at hcc
    refine (read26p_any A1 l.length c1 l 0 16384 65536 _ (own_rd (by repeat (first | with_reducible exact o1 | (with_reducible apply own_set_; case hne => first | exact ne_o1_hr) | with_reducible (apply own_alloc_) | with_reducible (apply own_drew_)))) (by omega) (by omega) (by omega) (by omega)).mono ?_
    rintro e w4 ⟨A2, c2, rfl, o2, hc2, b⟩
    rw [HT.out.1, HT.out.2.1, HT.out.2.2] at *
    have ne_o2_hr : (Value.slice A2 S.size c2).ownBlock ≠ some w.heap.size := OwU.not_lt o2 (by simp <;> omega)
    have ne_o2_hc : (Value.slice A2 S.size c2).ownBlock ≠ some w3.heap.size := OwU.not_lt o2 (by simp <;> omega)
    replace o2 := OwU.low o2 (show w.heap.size ≤ _ from by have hs_ := hB.size; simp <;> omega)
    have ne_o1_hc : (Value.slice A1 l.length c1).ownBlock ≠ some w3.heap.size := own_not_ge o1 (by omega)
    have o_hr_hc : w.heap.size < w3.heap.size := (by omega)
    replace hr := Blk.via0 (g := w.heap.size) (t := 75) b (by repeat (first | with_reducible exact hr | with_reducible (apply Blk.set_) | with_reducible (apply Blk.far; case hp => (simp <;> omega)) | with_reducible (apply Blk.alloc) | with_reducible (apply Blk.drew)))
    replace hr : Blk w4 w.heap.size 75 #[.int .u64 0, .slice none 0 0] := hr
    replace o1 := own_call (by repeat (first | with_reducible exact o1 | (with_reducible apply own_set_; case hne => first | exact ne_o1_hr) | with_reducible (apply own_alloc_) | with_reducible (apply own_drew_))) b
    have hc := Blk.via0 (g := w3.heap.size) (t := 70) b (by repeat (first | with_reducible exact Blk.newAt (by simp) _ _ | with_reducible (apply Blk.set_) | with_reducible (apply Blk.far; case hp => (simp <;> omega)) | with_reducible (apply Blk.alloc) | with_reducible (apply Blk.drew)))
    replace hc : Blk w4 w3.heap.size 70 #[.slice A1 l.length c1, .int .i64 0] := hc
    replace hB := Below.via (w := w) (by have hs_ := hB.size; repeat (first | with_reducible exact hB | with_reducible (refine Below.setCell ?_ (by simp <;> omega) _) | with_reducible (refine Below.alloc ?_ (by first | exact hs_ | (simp <;> omega)) _) | with_reducible (refine Below.drew ?_))) b
    clear z6 z7 z8 z9 z10
    clear b
    generalize w3.heap.size = pc at *
    have z11 : w4.cell? ⟨w.heap.size, 0, none⟩ = some (.int .u64 0) := (hr.cell 0).trans rfl
    have z12 := hr.frozen 0
    have z13 : ∀ ob_, (w4.alloc ob_).cell? ⟨w.heap.size, 0, none⟩ = some (.int .u64 0) := fun ob_ => ((Blk.alloc hr ob_).cell 0).trans rfl
    have z14 : ∀ ob_, (w4.alloc ob_).frozen? ⟨w.heap.size, 0, none⟩ = false := fun ob_ => (Blk.alloc hr ob_).frozen 0
    have z15 : w4.cell? ⟨w.heap.size, 1, none⟩ = some (.slice none 0 0) := (hr.cell 1).trans rfl
    have z16 := hr.frozen 1
    have z17 : ∀ ob_, (w4.alloc ob_).cell? ⟨w.heap.size, 1, none⟩ = some (.slice none 0 0) := fun ob_ => ((Blk.alloc hr ob_).cell 1).trans rfl
    have z18 : ∀ ob_, (w4.alloc ob_).frozen? ⟨w.heap.size, 1, none⟩ = false := fun ob_ => (Blk.alloc hr ob_).frozen 1
    have z19 : w4.cell? ⟨pc, 0, none⟩ = some (.slice A1 l.length c1) := (hc.cell 0).trans rfl
    have z20 := hc.frozen 0
    have z21 : ∀ ob_, (w4.alloc ob_).cell? ⟨pc, 0, none⟩ = some (.slice A1 l.length c1) := fun ob_ => ((Blk.alloc hc ob_).cell 0).trans rfl
    have z22 : ∀ ob_, (w4.alloc ob_).frozen? ⟨pc, 0, none⟩ = false := fun ob_ => (Blk.alloc hc ob_).frozen 0
    have z23 : w4.cell? ⟨pc, 1, none⟩ = some (.int .i64 0) := (hc.cell 1).trans rfl
    have z24 := hc.frozen 1
    have z25 : ∀ ob_, (w4.alloc ob_).cell? ⟨pc, 1, none⟩ = some (.int .i64 0) := fun ob_ => ((Blk.alloc hc ob_).cell 1).trans rfl
    have z26 : ∀ ob_, (w4.alloc ob_).frozen? ⟨pc, 1, none⟩ = false := fun ob_ => (Blk.alloc hc ob_).frozen 1
    have z27 := hr.lt
    have z28 := hc.lt
    go_wp2_with fail
    refine (ended26_any A1 l.length c1 q _ (by omega) (by omega)).mono ?_
    rintro e w5 ⟨rfl, b⟩
    rw [HD.out]
    have ne_o1_hg : (Value.slice A1 l.length c1).ownBlock ≠ some w4.heap.size := own_not_ge o1 (by omega)
    have ne_o2_hg : (Value.slice A2 S.size c2).ownBlock ≠ some w4.heap.size := OwU.not_ge o2 (by omega)
    have o_hr_hg : w.heap.size < w4.heap.size := (by omega)
    have o_hc_hg : pc < w4.heap.size := (by omega)
    replace hr := Blk.via0 (g := w.heap.size) (t := 75) b (by repeat (first | with_reducible exact hr | with_reducible (apply Blk.set_) | with_reducible (apply Blk.far; case hp => (simp <;> omega)) | with_reducible (apply Blk.alloc) | with_reducible (apply Blk.drew)))
    replace hr : Blk w5 w.heap.size 75 #[.int .u64 0, .slice none 0 0] := hr
    replace hc := Blk.via0 (g := pc) (t := 70) b (by repeat (first | with_reducible exact hc | with_reducible (apply Blk.set_) | with_reducible (apply Blk.far; case hp => (simp <;> omega)) | with_reducible (apply Blk.alloc) | with_reducible (apply Blk.drew)))
    replace hc : Blk w5 pc 70 #[.slice A1 l.length c1, .int .i64 (q : Int)] := hc
    replace o1 := own_call (by repeat (first | with_reducible exact o1 | (with_reducible apply own_set_; case hne => first | exact ne_o1_hr | exact ne_o1_hc) | with_reducible (apply own_alloc_) | with_reducible (apply own_drew_))) b
    replace o2 := OwU.call (by repeat (first | with_reducible exact o2 | (with_reducible apply OwU.setOther; case hne => first | exact ne_o2_hr | exact ne_o2_hc) | with_reducible (apply OwU.al) | with_reducible (apply OwU.drew))) b
    have hg := Blk.via0 (g := w4.heap.size) (t := 75) b (by repeat (first | with_reducible exact Blk.newAt (by simp) _ _ | with_reducible (apply Blk.set_) | with_reducible (apply Blk.far; case hp => (simp <;> omega)) | with_reducible (apply Blk.alloc) | with_reducible (apply Blk.drew)))
    replace hg : Blk w5 w4.heap.size 75 #[.int .u64 65536, .slice A2 S.size c2] := hg
    replace hB := Below.via (w := w) (by have hs_ := hB.size; repeat (first | with_reducible exact hB | with_reducible (refine Below.setCell ?_ (by simp <;> omega) _) | with_reducible (refine Below.alloc ?_ (by first | exact hs_ | (simp <;> omega)) _) | with_reducible (refine Below.drew ?_))) b
    clear z11 z12 z13 z14 z15 z16 z17 z18 z19 z20 z21 z22 z23 z24 z25 z26 z27 z28
    clear b
    generalize w4.heap.size = pg at *
    have z29 : w5.cell? ⟨w.heap.size, 0, none⟩ = some (.int .u64 0) := (hr.cell 0).trans rfl
    have z30 := hr.frozen 0
    have z31 : w5.cell? ⟨w.heap.size, 1, none⟩ = some (.slice none 0 0) := (hr.cell 1).trans rfl
    have z32 := hr.frozen 1
    have z33 : w5.cell? ⟨pc, 0, none⟩ = some (.slice A1 l.length c1) := (hc.cell 0).trans rfl
    have z34 := hc.frozen 0
    have z35 : w5.cell? ⟨pc, 1, none⟩ = some (.int .i64 (q : Int)) := (hc.cell 1).trans rfl
    have z36 := hc.frozen 1
    have z37 : w5.cell? ⟨pg, 0, none⟩ = some (.int .u64 65536) := (hg.cell 0).trans rfl
    have z38 := hg.frozen 0
    have z39 : w5.cell? ⟨pg, 1, none⟩ = some (.slice A2 S.size c2) := (hg.cell 1).trans rfl
    have z40 := hg.frozen 1
    have z41 := hr.lt
    have z42 := hc.lt
    have z43 := hg.lt
    go_wp2_with fail
    refine ret_c1 rfl regT rfl (by repeat (first | with_reducible exact hr | with_reducible (apply Blk.set_) | with_reducible (apply Blk.far; case hp => (simp <;> omega)) | with_reducible (apply Blk.alloc) | with_reducible (apply Blk.drew))) (by rfl) ?_
    unfold RhP
    exact ⟨none, 0, by rw [HV.out.1, HV.out.2.1, HV.out.2.2]; rfl, by rw [HV.out.2.1]; exact OwU.nil _ _, by rw [HV.out.2.1]; simp, (by have hs_ := hB.size; repeat (first | with_reducible exact hB | with_reducible (refine Below.setCell ?_ (by simp <;> omega) _) | with_reducible (refine Below.alloc ?_ (by first | exact hs_ | (simp <;> omega)) _) | with_reducible (refine Below.drew ?_)))⟩
  have HD := Lib.hid (show decide (q = l.length) = true from by rw [decide_eq_true_eq]; exact hql2)
  replace HSD := Lib.hid (HSD.out hql2)
  cases hh : hpB 65536 S.size
  · have HH := Lib.hid hh
    have HV := Lib.hid (rh_no (l := l) (by rw [HR0.out, hh, Bool.and_false]))
    clear hql2 hh
    have hB : Below w.heap.size w (w.alloc (.cells #[.int .u64 0, .slice none 0 0] 75)) := (Below.alloc (Below.refl w.heap.size w) (by simp <;> omega) (.cells #[.int .u64 0, .slice none 0 0] 75))
    have hr := Blk.new w 75 #[.int .u64 0, .slice none 0 0]
    go_enter Try.func37, Try.ntmps37
    have z1 : (w.alloc (.cells #[.int .u64 0, .slice none 0 0] 75)).cell? ⟨w.heap.size, 0, none⟩ = some (.int .u64 0) := (hr.cell 0).trans rfl
    have z2 := hr.frozen 0
    have z3 : (w.alloc (.cells #[.int .u64 0, .slice none 0 0] 75)).cell? ⟨w.heap.size, 1, none⟩ = some (.slice none 0 0) := (hr.cell 1).trans rfl
    have z4 := hr.frozen 1
    have z5 := hr.lt
    go_wp2_with fail
    refine (new_any A l.length c l _ (HR.out.mv hB) (by omega)).mono ?_
    rintro e w3 ⟨A1, c1, rfl, o1, b⟩
    rw [HW.out.1, HW.out.2] at *
    have ne_o1_hr : (Value.slice A1 l.length c1).ownBlock ≠ some w.heap.size := own_not_lt o1 (by simp <;> omega)
    replace o1 := own_low o1 (show w.heap.size ≤ _ from by have hs_ := hB.size; simp <;> omega)
    replace hr := Blk.via0 (g := w.heap.size) (t := 75) b (by repeat (first | with_reducible exact hr | with_reducible (apply Blk.set_) | with_reducible (apply Blk.far; case hp => (simp <;> omega)) | with_reducible (apply Blk.alloc) | with_reducible (apply Blk.drew)))
    replace hr : Blk w3 w.heap.size 75 #[.int .u64 0, .slice none 0 0] := hr
    replace hB := Below.via (w := w) (by have hs_ := hB.size; repeat (first | with_reducible exact hB | with_reducible (refine Below.setCell ?_ (by simp <;> omega) _) | with_reducible (refine Below.alloc ?_ (by first | exact hs_ | (simp <;> omega)) _) | with_reducible (refine Below.drew ?_))) b
    clear z1 z2 z3 z4 z5
    clear b
    have z6 : w3.cell? ⟨w.heap.size, 0, none⟩ = some (.int .u64 0) := (hr.cell 0).trans rfl
    have z7 := hr.frozen 0
    have z8 : w3.cell? ⟨w.heap.size, 1, none⟩ = some (.slice none 0 0) := (hr.cell 1).trans rfl
    have z9 := hr.frozen 1
    have z10 := hr.lt
    go_wp2_with fail
    have hcc := own_cap o1
    unfold maxLen at hcc
    refine (read26p_any A1 l.length c1 l 0 16384 65536 _ (own_rd (by repeat (first | with_reducible exact o1 | (with_reducible apply own_set_; case hne => first | exact ne_o1_hr) | with_reducible (apply own_alloc_) | with_reducible (apply own_drew_)))) (by omega) (by omega) (by omega) (by omega)).mono ?_
    rintro e w4 ⟨A2, c2, rfl, o2, hc2, b⟩
    rw [HT.out.1, HT.out.2.1, HT.out.2.2] at *
    have ne_o2_hr : (Value.slice A2 S.size c2).ownBlock ≠ some w.heap.size := OwU.not_lt o2 (by simp <;> omega)
    have ne_o2_hc : (Value.slice A2 S.size c2).ownBlock ≠ some w3.heap.size := OwU.not_lt o2 (by simp <;> omega)
    replace o2 := OwU.low o2 (show w.heap.size ≤ _ from by have hs_ := hB.size; simp <;> omega)
    have ne_o1_hc : (Value.slice A1 l.length c1).ownBlock ≠ some w3.heap.size := own_not_ge o1 (by omega)
    have o_hr_hc : w.heap.size < w3.heap.size := (by omega)
    replace hr := Blk.via0 (g := w.heap.size) (t := 75) b (by repeat (first | with_reducible exact hr | with_reducible (apply Blk.set_) | with_reducible (apply Blk.far; case hp => (simp <;> omega)) | with_reducible (apply Blk.alloc) | with_reducible (apply Blk.drew)))
    replace hr : Blk w4 w.heap.size 75 #[.int .u64 0, .slice none 0 0] := hr
    replace o1 := own_call (by repeat (first | with_reducible exact o1 | (with_reducible apply own_set_; case hne => first | exact ne_o1_hr) | with_reducible (apply own_alloc_) | with_reducible (apply own_drew_))) b
    have hc := Blk.via0 (g := w3.heap.size) (t := 70) b (by repeat (first | with_reducible exact Blk.newAt (by simp) _ _ | with_reducible (apply Blk.set_) | with_reducible (apply Blk.far; case hp => (simp <;> omega)) | with_reducible (apply Blk.alloc) | with_reducible (apply Blk.drew)))
    replace hc : Blk w4 w3.heap.size 70 #[.slice A1 l.length c1, .int .i64 0] := hc
    replace hB := Below.via (w := w) (by have hs_ := hB.size; repeat (first | with_reducible exact hB | with_reducible (refine Below.setCell ?_ (by simp <;> omega) _) | with_reducible (refine Below.alloc ?_ (by first | exact hs_ | (simp <;> omega)) _) | with_reducible (refine Below.drew ?_))) b
    clear z6 z7 z8 z9 z10
    clear b
    generalize w3.heap.size = pc at *
    have z11 : w4.cell? ⟨w.heap.size, 0, none⟩ = some (.int .u64 0) := (hr.cell 0).trans rfl
    have z12 := hr.frozen 0
    have z13 : ∀ ob_, (w4.alloc ob_).cell? ⟨w.heap.size, 0, none⟩ = some (.int .u64 0) := fun ob_ => ((Blk.alloc hr ob_).cell 0).trans rfl
    have z14 : ∀ ob_, (w4.alloc ob_).frozen? ⟨w.heap.size, 0, none⟩ = false := fun ob_ => (Blk.alloc hr ob_).frozen 0
    have z15 : w4.cell? ⟨w.heap.size, 1, none⟩ = some (.slice none 0 0) := (hr.cell 1).trans rfl
    have z16 := hr.frozen 1
    have z17 : ∀ ob_, (w4.alloc ob_).cell? ⟨w.heap.size, 1, none⟩ = some (.slice none 0 0) := fun ob_ => ((Blk.alloc hr ob_).cell 1).trans rfl
    have z18 : ∀ ob_, (w4.alloc ob_).frozen? ⟨w.heap.size, 1, none⟩ = false := fun ob_ => (Blk.alloc hr ob_).frozen 1
    have z19 : w4.cell? ⟨pc, 0, none⟩ = some (.slice A1 l.length c1) := (hc.cell 0).trans rfl
    have z20 := hc.frozen 0
    have z21 : ∀ ob_, (w4.alloc ob_).cell? ⟨pc, 0, none⟩ = some (.slice A1 l.length c1) := fun ob_ => ((Blk.alloc hc ob_).cell 0).trans rfl
    have z22 : ∀ ob_, (w4.alloc ob_).frozen? ⟨pc, 0, none⟩ = false := fun ob_ => (Blk.alloc hc ob_).frozen 0
    have z23 : w4.cell? ⟨pc, 1, none⟩ = some (.int .i64 0) := (hc.cell 1).trans rfl
    have z24 := hc.frozen 1
    have z25 : ∀ ob_, (w4.alloc ob_).cell? ⟨pc, 1, none⟩ = some (.int .i64 0) := fun ob_ => ((Blk.alloc hc ob_).cell 1).trans rfl
    have z26 : ∀ ob_, (w4.alloc ob_).frozen? ⟨pc, 1, none⟩ = false := fun ob_ => (Blk.alloc hc ob_).frozen 1
    have z27 := hr.lt
    have z28 := hc.lt
    go_wp2_with fail
    refine (ended26_any A1 l.length c1 q _ (by omega) (by omega)).mono ?_
    rintro e w5 ⟨rfl, b⟩
    rw [HD.out]
    have ne_o1_hg : (Value.slice A1 l.length c1).ownBlock ≠ some w4.heap.size := own_not_ge o1 (by omega)
    have ne_o2_hg : (Value.slice A2 S.size c2).ownBlock ≠ some w4.heap.size := OwU.not_ge o2 (by omega)
    have o_hr_hg : w.heap.size < w4.heap.size := (by omega)
    have o_hc_hg : pc < w4.heap.size := (by omega)
    replace hr := Blk.via0 (g := w.heap.size) (t := 75) b (by repeat (first | with_reducible exact hr | with_reducible (apply Blk.set_) | with_reducible (apply Blk.far; case hp => (simp <;> omega)) | with_reducible (apply Blk.alloc) | with_reducible (apply Blk.drew)))
    replace hr : Blk w5 w.heap.size 75 #[.int .u64 0, .slice none 0 0] := hr
    replace hc := Blk.via0 (g := pc) (t := 70) b (by repeat (first | with_reducible exact hc | with_reducible (apply Blk.set_) | with_reducible (apply Blk.far; case hp => (simp <;> omega)) | with_reducible (apply Blk.alloc) | with_reducible (apply Blk.drew)))
    replace hc : Blk w5 pc 70 #[.slice A1 l.length c1, .int .i64 (q : Int)] := hc
    replace o1 := own_call (by repeat (first | with_reducible exact o1 | (with_reducible apply own_set_; case hne => first | exact ne_o1_hr | exact ne_o1_hc) | with_reducible (apply own_alloc_) | with_reducible (apply own_drew_))) b
    replace o2 := OwU.call (by repeat (first | with_reducible exact o2 | (with_reducible apply OwU.setOther; case hne => first | exact ne_o2_hr | exact ne_o2_hc) | with_reducible (apply OwU.al) | with_reducible (apply OwU.drew))) b
    have hg := Blk.via0 (g := w4.heap.size) (t := 75) b (by repeat (first | with_reducible exact Blk.newAt (by simp) _ _ | with_reducible (apply Blk.set_) | with_reducible (apply Blk.far; case hp => (simp <;> omega)) | with_reducible (apply Blk.alloc) | with_reducible (apply Blk.drew)))
    replace hg : Blk w5 w4.heap.size 75 #[.int .u64 65536, .slice A2 S.size c2] := hg
    replace hB := Below.via (w := w) (by have hs_ := hB.size; repeat (first | with_reducible exact hB | with_reducible (refine Below.setCell ?_ (by simp <;> omega) _) | with_reducible (refine Below.alloc ?_ (by first | exact hs_ | (simp <;> omega)) _) | with_reducible (refine Below.drew ?_))) b
    clear z11 z12 z13 z14 z15 z16 z17 z18 z19 z20 z21 z22 z23 z24 z25 z26 z27 z28
    clear b
    generalize w4.heap.size = pg at *
    have z29 : w5.cell? ⟨w.heap.size, 0, none⟩ = some (.int .u64 0) := (hr.cell 0).trans rfl
    have z30 := hr.frozen 0
    have z31 : w5.cell? ⟨w.heap.size, 1, none⟩ = some (.slice none 0 0) := (hr.cell 1).trans rfl
    have z32 := hr.frozen 1
    have z33 : w5.cell? ⟨pc, 0, none⟩ = some (.slice A1 l.length c1) := (hc.cell 0).trans rfl
    have z34 := hc.frozen 0
    have z35 : w5.cell? ⟨pc, 1, none⟩ = some (.int .i64 (q : Int)) := (hc.cell 1).trans rfl
    have z36 := hc.frozen 1
    have z37 : w5.cell? ⟨pg, 0, none⟩ = some (.int .u64 65536) := (hg.cell 0).trans rfl
    have z38 := hg.frozen 0
    have z39 : w5.cell? ⟨pg, 1, none⟩ = some (.slice A2 S.size c2) := (hg.cell 1).trans rfl
    have z40 := hg.frozen 1
    have z41 := hr.lt
    have z42 := hc.lt
    have z43 := hg.lt
    go_wp2_with fail
    refine (isHeap_any 65536 A2 S.size c2 _).mono ?_
    rintro e w6 ⟨rfl, b⟩
    rw [HH.out]
    replace hr := Blk.via0 (g := w.heap.size) (t := 75) b (by repeat (first | with_reducible exact hr | with_reducible (apply Blk.set_) | with_reducible (apply Blk.far; case hp => (simp <;> omega)) | with_reducible (apply Blk.alloc) | with_reducible (apply Blk.drew)))
    replace hr : Blk w6 w.heap.size 75 #[.int .u64 0, .slice none 0 0] := hr
    replace hc := Blk.via0 (g := pc) (t := 70) b (by repeat (first | with_reducible exact hc | with_reducible (apply Blk.set_) | with_reducible (apply Blk.far; case hp => (simp <;> omega)) | with_reducible (apply Blk.alloc) | with_reducible (apply Blk.drew)))
    replace hc : Blk w6 pc 70 #[.slice A1 l.length c1, .int .i64 (q : Int)] := hc
    replace hg := Blk.via0 (g := pg) (t := 75) b (by repeat (first | with_reducible exact hg | with_reducible (apply Blk.set_) | with_reducible (apply Blk.far; case hp => (simp <;> omega)) | with_reducible (apply Blk.alloc) | with_reducible (apply Blk.drew)))
    replace hg : Blk w6 pg 75 #[.int .u64 65536, .slice A2 S.size c2] := hg
    replace o1 := own_call (by repeat (first | with_reducible exact o1 | (with_reducible apply own_set_; case hne => first | exact ne_o1_hr | exact ne_o1_hc | exact ne_o1_hg) | with_reducible (apply own_alloc_) | with_reducible (apply own_drew_))) b
    replace o2 := OwU.call (by repeat (first | with_reducible exact o2 | (with_reducible apply OwU.setOther; case hne => first | exact ne_o2_hr | exact ne_o2_hc | exact ne_o2_hg) | with_reducible (apply OwU.al) | with_reducible (apply OwU.drew))) b
    replace hB := Below.via (w := w) (by have hs_ := hB.size; repeat (first | with_reducible exact hB | with_reducible (refine Below.setCell ?_ (by simp <;> omega) _) | with_reducible (refine Below.alloc ?_ (by first | exact hs_ | (simp <;> omega)) _) | with_reducible (refine Below.drew ?_))) b
    clear z29 z30 z31 z32 z33 z34 z35 z36 z37 z38 z39 z40 z41 z42 z43
    clear b
    have z44 : w6.cell? ⟨w.heap.size, 0, none⟩ = some (.int .u64 0) := (hr.cell 0).trans rfl
    have z45 := hr.frozen 0
    have z46 : w6.cell? ⟨w.heap.size, 1, none⟩ = some (.slice none 0 0) := (hr.cell 1).trans rfl
    have z47 := hr.frozen 1
    have z48 : w6.cell? ⟨pc, 0, none⟩ = some (.slice A1 l.length c1) := (hc.cell 0).trans rfl
    have z49 := hc.frozen 0
    have z50 : w6.cell? ⟨pc, 1, none⟩ = some (.int .i64 (q : Int)) := (hc.cell 1).trans rfl
    have z51 := hc.frozen 1
    have z52 : w6.cell? ⟨pg, 0, none⟩ = some (.int .u64 65536) := (hg.cell 0).trans rfl
    have z53 := hg.frozen 0
    have z54 : w6.cell? ⟨pg, 1, none⟩ = some (.slice A2 S.size c2) := (hg.cell 1).trans rfl
    have z55 := hg.frozen 1
    have z56 := hr.lt
    have z57 := hc.lt
    have z58 := hg.lt
    go_wp2_with fail
    refine ret_c1 rfl regT rfl (by repeat (first | with_reducible exact hr | with_reducible (apply Blk.set_) | with_reducible (apply Blk.far; case hp => (simp <;> omega)) | with_reducible (apply Blk.alloc) | with_reducible (apply Blk.drew))) (by rfl) ?_
    unfold RhP
    exact ⟨none, 0, by rw [HV.out.1, HV.out.2.1, HV.out.2.2]; rfl, by rw [HV.out.2.1]; exact OwU.nil _ _, by rw [HV.out.2.1]; simp, (by have hs_ := hB.size; repeat (first | with_reducible exact hB | with_reducible (refine Below.setCell ?_ (by simp <;> omega) _) | with_reducible (refine Below.alloc ?_ (by first | exact hs_ | (simp <;> omega)) _) | with_reducible (refine Below.drew ?_)))⟩
  have HH := Lib.hid hh
  have hv := rh_yes (l := l) (by rw [HR0.out, hh, HD.out]; rfl)
  rw [HU.out] at hv
  have HSL := Lib.hid (show (l.drop u).length = S.size from by rw [← HSD.out]; simp)
  have HV := Lib.hid hv
  clear hh hv hql2
  have hB : Below w.heap.size w (w.alloc (.cells #[.int .u64 0, .slice none 0 0] 75)) := (Below.alloc (Below.refl w.heap.size w) (by simp <;> omega) (.cells #[.int .u64 0, .slice none 0 0] 75))
  have hr := Blk.new w 75 #[.int .u64 0, .slice none 0 0]
  go_enter Try.func37, Try.ntmps37
  have z1 : (w.alloc (.cells #[.int .u64 0, .slice none 0 0] 75)).cell? ⟨w.heap.size, 0, none⟩ = some (.int .u64 0) := (hr.cell 0).trans rfl
  have z2 := hr.frozen 0
  have z3 : (w.alloc (.cells #[.int .u64 0, .slice none 0 0] 75)).cell? ⟨w.heap.size, 1, none⟩ = some (.slice none 0 0) := (hr.cell 1).trans rfl
  have z4 := hr.frozen 1
  have z5 := hr.lt
  go_wp2_with fail
  refine (new_any A l.length c l _ (HR.out.mv hB) (by omega)).mono ?_
  rintro e w3 ⟨A1, c1, rfl, o1, b⟩
  rw [HW.out.1, HW.out.2] at *
  have ne_o1_hr : (Value.slice A1 l.length c1).ownBlock ≠ some w.heap.size := own_not_lt o1 (by simp <;> omega)
  replace o1 := own_low o1 (show w.heap.size ≤ _ from by have hs_ := hB.size; simp <;> omega)
  replace hr := Blk.via0 (g := w.heap.size) (t := 75) b (by repeat (first | with_reducible exact hr | with_reducible (apply Blk.set_) | with_reducible (apply Blk.far; case hp => (simp <;> omega)) | with_reducible (apply Blk.alloc) | with_reducible (apply Blk.drew)))
  replace hr : Blk w3 w.heap.size 75 #[.int .u64 0, .slice none 0 0] := hr
  replace hB := Below.via (w := w) (by have hs_ := hB.size; repeat (first | with_reducible exact hB | with_reducible (refine Below.setCell ?_ (by simp <;> omega) _) | with_reducible (refine Below.alloc ?_ (by first | exact hs_ | (simp <;> omega)) _) | with_reducible (refine Below.drew ?_))) b
  clear z1 z2 z3 z4 z5
  clear b
  have z6 : w3.cell? ⟨w.heap.size, 0, none⟩ = some (.int .u64 0) := (hr.cell 0).trans rfl
  have z7 := hr.frozen 0
  have z8 : w3.cell? ⟨w.heap.size, 1, none⟩ = some (.slice none 0 0) := (hr.cell 1).trans rfl
  have z9 := hr.frozen 1
  have z10 := hr.lt
  go_wp2_with fail
  have hcc := own_cap o1
  unfold maxLen at hcc
  refine (read26p_any A1 l.length c1 l 0 16384 65536 _ (own_rd (by repeat (first | with_reducible exact o1 | (with_reducible apply own_set_; case hne => first | exact ne_o1_hr) | with_reducible (apply own_alloc_) | with_reducible (apply own_drew_)))) (by omega) (by omega) (by omega) (by omega)).mono ?_
  rintro e w4 ⟨A2, c2, rfl, o2, hc2, b⟩
  rw [HT.out.1, HT.out.2.1, HT.out.2.2] at *
  have ne_o2_hr : (Value.slice A2 S.size c2).ownBlock ≠ some w.heap.size := OwU.not_lt o2 (by simp <;> omega)
  have ne_o2_hc : (Value.slice A2 S.size c2).ownBlock ≠ some w3.heap.size := OwU.not_lt o2 (by simp <;> omega)
  replace o2 := OwU.low o2 (show w.heap.size ≤ _ from by have hs_ := hB.size; simp <;> omega)
  have ne_o1_hc : (Value.slice A1 l.length c1).ownBlock ≠ some w3.heap.size := own_not_ge o1 (by omega)
  have o_hr_hc : w.heap.size < w3.heap.size := (by omega)
  replace hr := Blk.via0 (g := w.heap.size) (t := 75) b (by repeat (first | with_reducible exact hr | with_reducible (apply Blk.set_) | with_reducible (apply Blk.far; case hp => (simp <;> omega)) | with_reducible (apply Blk.alloc) | with_reducible (apply Blk.drew)))
  replace hr : Blk w4 w.heap.size 75 #[.int .u64 0, .slice none 0 0] := hr
  replace o1 := own_call (by repeat (first | with_reducible exact o1 | (with_reducible apply own_set_; case hne => first | exact ne_o1_hr) | with_reducible (apply own_alloc_) | with_reducible (apply own_drew_))) b
  have hc := Blk.via0 (g := w3.heap.size) (t := 70) b (by repeat (first | with_reducible exact Blk.newAt (by simp) _ _ | with_reducible (apply Blk.set_) | with_reducible (apply Blk.far; case hp => (simp <;> omega)) | with_reducible (apply Blk.alloc) | with_reducible (apply Blk.drew)))
  replace hc : Blk w4 w3.heap.size 70 #[.slice A1 l.length c1, .int .i64 0] := hc
  replace hB := Below.via (w := w) (by have hs_ := hB.size; repeat (first | with_reducible exact hB | with_reducible (refine Below.setCell ?_ (by simp <;> omega) _) | with_reducible (refine Below.alloc ?_ (by first | exact hs_ | (simp <;> omega)) _) | with_reducible (refine Below.drew ?_))) b
  clear z6 z7 z8 z9 z10
  clear b
  generalize w3.heap.size = pc at *
  have z11 : w4.cell? ⟨w.heap.size, 0, none⟩ = some (.int .u64 0) := (hr.cell 0).trans rfl
  have z12 := hr.frozen 0
  have z13 : ∀ ob_, (w4.alloc ob_).cell? ⟨w.heap.size, 0, none⟩ = some (.int .u64 0) := fun ob_ => ((Blk.alloc hr ob_).cell 0).trans rfl
  have z14 : ∀ ob_, (w4.alloc ob_).frozen? ⟨w.heap.size, 0, none⟩ = false := fun ob_ => (Blk.alloc hr ob_).frozen 0
  have z15 : w4.cell? ⟨w.heap.size, 1, none⟩ = some (.slice none 0 0) := (hr.cell 1).trans rfl
  have z16 := hr.frozen 1
  have z17 : ∀ ob_, (w4.alloc ob_).cell? ⟨w.heap.size, 1, none⟩ = some (.slice none 0 0) := fun ob_ => ((Blk.alloc hr ob_).cell 1).trans rfl
  have z18 : ∀ ob_, (w4.alloc ob_).frozen? ⟨w.heap.size, 1, none⟩ = false := fun ob_ => (Blk.alloc hr ob_).frozen 1
  have z19 : w4.cell? ⟨pc, 0, none⟩ = some (.slice A1 l.length c1) := (hc.cell 0).trans rfl
  have z20 := hc.frozen 0
  have z21 : ∀ ob_, (w4.alloc ob_).cell? ⟨pc, 0, none⟩ = some (.slice A1 l.length c1) := fun ob_ => ((Blk.alloc hc ob_).cell 0).trans rfl
  have z22 : ∀ ob_, (w4.alloc ob_).frozen? ⟨pc, 0, none⟩ = false := fun ob_ => (Blk.alloc hc ob_).frozen 0
  have z23 : w4.cell? ⟨pc, 1, none⟩ = some (.int .i64 0) := (hc.cell 1).trans rfl
  have z24 := hc.frozen 1
  have z25 : ∀ ob_, (w4.alloc ob_).cell? ⟨pc, 1, none⟩ = some (.int .i64 0) := fun ob_ => ((Blk.alloc hc ob_).cell 1).trans rfl
  have z26 : ∀ ob_, (w4.alloc ob_).frozen? ⟨pc, 1, none⟩ = false := fun ob_ => (Blk.alloc hc ob_).frozen 1
  have z27 := hr.lt
  have z28 := hc.lt
  go_wp2_with fail
  refine (ended26_any A1 l.length c1 q _ (by omega) (by omega)).mono ?_
  rintro e w5 ⟨rfl, b⟩
  rw [HD.out]
  have ne_o1_hg : (Value.slice A1 l.length c1).ownBlock ≠ some w4.heap.size := own_not_ge o1 (by omega)
  have ne_o2_hg : (Value.slice A2 S.size c2).ownBlock ≠ some w4.heap.size := OwU.not_ge o2 (by omega)
  have o_hr_hg : w.heap.size < w4.heap.size := (by omega)
  have o_hc_hg : pc < w4.heap.size := (by omega)
  replace hr := Blk.via0 (g := w.heap.size) (t := 75) b (by repeat (first | with_reducible exact hr | with_reducible (apply Blk.set_) | with_reducible (apply Blk.far; case hp => (simp <;> omega)) | with_reducible (apply Blk.alloc) | with_reducible (apply Blk.drew)))
  replace hr : Blk w5 w.heap.size 75 #[.int .u64 0, .slice none 0 0] := hr
  replace hc := Blk.via0 (g := pc) (t := 70) b (by repeat (first | with_reducible exact hc | with_reducible (apply Blk.set_) | with_reducible (apply Blk.far; case hp => (simp <;> omega)) | with_reducible (apply Blk.alloc) | with_reducible (apply Blk.drew)))
  replace hc : Blk w5 pc 70 #[.slice A1 l.length c1, .int .i64 (q : Int)] := hc
  replace o1 := own_call (by repeat (first | with_reducible exact o1 | (with_reducible apply own_set_; case hne => first | exact ne_o1_hr | exact ne_o1_hc) | with_reducible (apply own_alloc_) | with_reducible (apply own_drew_))) b
  replace o2 := OwU.call (by repeat (first | with_reducible exact o2 | (with_reducible apply OwU.setOther; case hne => first | exact ne_o2_hr | exact ne_o2_hc) | with_reducible (apply OwU.al) | with_reducible (apply OwU.drew))) b
  have hg := Blk.via0 (g := w4.heap.size) (t := 75) b (by repeat (first | with_reducible exact Blk.newAt (by simp) _ _ | with_reducible (apply Blk.set_) | with_reducible (apply Blk.far; case hp => (simp <;> omega)) | with_reducible (apply Blk.alloc) | with_reducible (apply Blk.drew)))
  replace hg : Blk w5 w4.heap.size 75 #[.int .u64 65536, .slice A2 S.size c2] := hg
  replace hB := Below.via (w := w) (by have hs_ := hB.size; repeat (first | with_reducible exact hB | with_reducible (refine Below.setCell ?_ (by simp <;> omega) _) | with_reducible (refine Below.alloc ?_ (by first | exact hs_ | (simp <;> omega)) _) | with_reducible (refine Below.drew ?_))) b
  clear z11 z12 z13 z14 z15 z16 z17 z18 z19 z20 z21 z22 z23 z24 z25 z26 z27 z28
  clear b
  generalize w4.heap.size = pg at *
  have z29 : w5.cell? ⟨w.heap.size, 0, none⟩ = some (.int .u64 0) := (hr.cell 0).trans rfl
  have z30 := hr.frozen 0
  have z31 : w5.cell? ⟨w.heap.size, 1, none⟩ = some (.slice none 0 0) := (hr.cell 1).trans rfl
  have z32 := hr.frozen 1
  have z33 : w5.cell? ⟨pc, 0, none⟩ = some (.slice A1 l.length c1) := (hc.cell 0).trans rfl
  have z34 := hc.frozen 0
  have z35 : w5.cell? ⟨pc, 1, none⟩ = some (.int .i64 (q : Int)) := (hc.cell 1).trans rfl
  have z36 := hc.frozen 1
  have z37 : w5.cell? ⟨pg, 0, none⟩ = some (.int .u64 65536) := (hg.cell 0).trans rfl
  have z38 := hg.frozen 0
  have z39 : w5.cell? ⟨pg, 1, none⟩ = some (.slice A2 S.size c2) := (hg.cell 1).trans rfl
  have z40 := hg.frozen 1
  have z41 := hr.lt
  have z42 := hc.lt
  have z43 := hg.lt
  go_wp2_with fail
  refine (isHeap_any 65536 A2 S.size c2 _).mono ?_
  rintro e w6 ⟨rfl, b⟩
  rw [HH.out]
  replace hr := Blk.via0 (g := w.heap.size) (t := 75) b (by repeat (first | with_reducible exact hr | with_reducible (apply Blk.set_) | with_reducible (apply Blk.far; case hp => (simp <;> omega)) | with_reducible (apply Blk.alloc) | with_reducible (apply Blk.drew)))
  replace hr : Blk w6 w.heap.size 75 #[.int .u64 0, .slice none 0 0] := hr
  replace hc := Blk.via0 (g := pc) (t := 70) b (by repeat (first | with_reducible exact hc | with_reducible (apply Blk.set_) | with_reducible (apply Blk.far; case hp => (simp <;> omega)) | with_reducible (apply Blk.alloc) | with_reducible (apply Blk.drew)))
  replace hc : Blk w6 pc 70 #[.slice A1 l.length c1, .int .i64 (q : Int)] := hc
  replace hg := Blk.via0 (g := pg) (t := 75) b (by repeat (first | with_reducible exact hg | with_reducible (apply Blk.set_) | with_reducible (apply Blk.far; case hp => (simp <;> omega)) | with_reducible (apply Blk.alloc) | with_reducible (apply Blk.drew)))
  replace hg : Blk w6 pg 75 #[.int .u64 65536, .slice A2 S.size c2] := hg
  replace o1 := own_call (by repeat (first | with_reducible exact o1 | (with_reducible apply own_set_; case hne => first | exact ne_o1_hr | exact ne_o1_hc | exact ne_o1_hg) | with_reducible (apply own_alloc_) | with_reducible (apply own_drew_))) b
  replace o2 := OwU.call (by repeat (first | with_reducible exact o2 | (with_reducible apply OwU.setOther; case hne => first | exact ne_o2_hr | exact ne_o2_hc | exact ne_o2_hg) | with_reducible (apply OwU.al) | with_reducible (apply OwU.drew))) b
  replace hB := Below.via (w := w) (by have hs_ := hB.size; repeat (first | with_reducible exact hB | with_reducible (refine Below.setCell ?_ (by simp <;> omega) _) | with_reducible (refine Below.alloc ?_ (by first | exact hs_ | (simp <;> omega)) _) | with_reducible (refine Below.drew ?_))) b
  clear z29 z30 z31 z32 z33 z34 z35 z36 z37 z38 z39 z40 z41 z42 z43
  clear b
  have z44 : w6.cell? ⟨w.heap.size, 0, none⟩ = some (.int .u64 0) := (hr.cell 0).trans rfl
  have z45 := hr.frozen 0
  have z46 : w6.cell? ⟨w.heap.size, 1, none⟩ = some (.slice none 0 0) := (hr.cell 1).trans rfl
  have z47 := hr.frozen 1
  have z48 : w6.cell? ⟨pc, 0, none⟩ = some (.slice A1 l.length c1) := (hc.cell 0).trans rfl
  have z49 := hc.frozen 0
  have z50 : w6.cell? ⟨pc, 1, none⟩ = some (.int .i64 (q : Int)) := (hc.cell 1).trans rfl
  have z51 := hc.frozen 1
  have z52 : w6.cell? ⟨pg, 0, none⟩ = some (.int .u64 65536) := (hg.cell 0).trans rfl
  have z53 := hg.frozen 0
  have z54 : w6.cell? ⟨pg, 1, none⟩ = some (.slice A2 S.size c2) := (hg.cell 1).trans rfl
  have z55 := hg.frozen 1
  have z56 := hr.lt
  have z57 := hc.lt
  have z58 := hg.lt
  go_wp2_with fail
  refine ret_c1 rfl regT rfl (by repeat (first | with_reducible exact hr | with_reducible (apply Blk.set_) | with_reducible (apply Blk.far; case hp => (simp <;> omega)) | with_reducible (apply Blk.alloc) | with_reducible (apply Blk.drew))) (by rfl) ?_
  unfold RhP
  exact ⟨A2, c2, by rw [HV.out.1, HV.out.2.1, HV.out.2.2, HSL.out]; rfl, by rw [HV.out.2.1, HSL.out, ← HSD.out]; exact (by repeat (first | with_reducible exact o2 | (with_reducible apply OwU.setOther; case hne => first | exact ne_o2_hr | exact ne_o2_hc | exact ne_o2_hg) | with_reducible (apply OwU.al) | with_reducible (apply OwU.drew))), by rw [HV.out.2.1, HSL.out]; exact hc2, (by have hs_ := hB.size; repeat (first | with_reducible exact hB | with_reducible (refine Below.setCell ?_ (by simp <;> omega) _) | with_reducible (refine Below.alloc ?_ (by first | exact hs_ | (simp <;> omega)) _) | with_reducible (refine Below.drew ?_)))⟩

end Go.Proofs.Ytldaijkcmnnjpaa
