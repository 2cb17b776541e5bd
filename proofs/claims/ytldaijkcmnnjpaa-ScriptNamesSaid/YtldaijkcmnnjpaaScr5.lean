/- Contracts and laws of a chapter that its statement of names leans on. Each states its conditions. -/
import Derived.Test.YtldaijkcmnnjpaaScr4
namespace Go.Proofs.Ytldaijkcmnnjpaa
open Go.RowKit Wire
set_option linter.unusedVariables false
set_option maxRecDepth 100000 in
set_option maxHeartbeats 1600000 in
theorem clone_any (A : Option Addr) (n c : Nat) (l : List Int) (w : World) (hr : RdI w w.heap.size A n l) (hn : n ≤ 1000000) :
    Calls Try.prog 59 #[.slice A n c] w fun e w' => ∃ A' c', e = .returned (.slice A' n c') ∧ w'.ownsRow w.heap.size 3 1 (.slice A' n c') n (l.map vI) ∧ Below w.heap.size w w' := by
  have hB1 := (Below.refl w.heap.size w).alloc (Nat.le_refl _) (.cells #[] 3)
  rcases A with _ | ad
  · have h0 : n = 0 := by
      rcases Nat.eq_zero_or_pos n with h | h
      · exact h
      · obtain ⟨ad, h2, _⟩ := hr.2 h
        cases h2
    have he := fun W => Lib.run_eql_slice_nil_nil (P := Try.prog) W (t := 42) (e := 3) n c Try.underlying42
    subst h0
    have hl : l = [] := List.eq_nil_of_length_eq_zero hr.lenI
    subst hl
    go_enter Try.func59, Try.ntmps59
    go_wp2_with fail
    go_ret
    exact ⟨none, 0, rfl, World.ownsRow_nil _ _ _ _, Below.refl _ _⟩
  · have he := fun W => Lib.run_eql_slice_some_nil (P := Try.prog) W (t := 42) (e := 3) ad n c Try.underlying42
    have HR := Lib.hid (hr.below hB1)
    clear hr
    go_enter Try.func59, Try.ntmps59
    go_wp2_with (at_builtin; refine wpList_app rfl (.tmp 5) (.tmp 6) _ (by rfl) slI w.heap.size _ 0 [] (by rfl) (own_empty_at rfl (Nat.le_refl _) _ _) _ (some ad) n c (l.map vI) (by rfl) HR.out (vI_one _) (by omega) (by simp) ?_; intro A3 c3 w3 o3 hg3 b3 hc3)
    rw [Nat.zero_add] at *
    go_ret
    exact ⟨A3, c3, rfl, o3, hB1.trans b3⟩
/-- What Cut answers. -/
def ctE (st sk hp rt : Int) (l : List Int) (k : Int) : Int := if scB st sk hp rt l then (if inB k 0 l.length then 0 else 2) else 8
def ctL (st sk hp rt : Int) (l : List Int) (k : Int) : List Int := if ctE st sk hp rt l k = 0 then l.take k.toNat else []
def ctZ (e x : Int) : Int := if e = 0 then x else 0
theorem own11 {w : World} {base B : Nat} {A : Option Addr} {n c : Nat} {xs : List Value} {v0 v1 v2 v3 v4 v5 : Value} (h : w.ownsRow base 3 1 (.slice A n c) n xs) (hB : B ≤ base) (hg : B + 1 < base) :
    (((((((w.setCell ⟨B, 0, none⟩ v0).setCell ⟨B + 1, 0, none⟩ v1).setCell ⟨B + 1, 1, none⟩ v2).setCell ⟨B + 1, 2, none⟩ v3).setCell ⟨B + 1, 3, none⟩ v4).setCell ⟨B + 1, 4, none⟩ v5)).ownsRow B 3 1 (.slice A n c) n xs :=
  own_low (own_far (own_far (own_far (own_far (own_far (own_far h (by omega) _) (by omega) _) (by omega) _) (by omega) _) (by omega) _) (by omega) _) hB
set_option maxRecDepth 100000 in
set_option maxHeartbeats 4000000 in
theorem cut_any (A : Option Addr) (n c : Nat) (l : List Int) (st sk hp rt k : Int) (w : World) (hr : RdI w w.heap.size A n l) (hn : n ≤ 9223372036854775807) (hnc : n ≤ c) (hkb : -9223372036854775808 ≤ k ∧ k ≤ 9223372036854775807) :
    Calls Try.prog 18 #[scr A n c st sk hp rt, .int .i64 k] w fun e w' => ∃ A' c', e = .returned (.tuple #[scr A' (ctL st sk hp rt l k).length c' (ctZ (ctE st sk hp rt l k) st) (ctZ (ctE st sk hp rt l k) sk) (ctZ (ctE st sk hp rt l k) hp) (ctZ (ctE st sk hp rt l k) rt), .int .i64 (ctE st sk hp rt l k)]) ∧ w'.ownsRow w.heap.size 3 1 (.slice A' (ctL st sk hp rt l k).length c') (ctL st sk hp rt l k).length ((ctL st sk hp rt l k).map vI) ∧ Below w.heap.size w w' := by
  have HL := Lib.hid hr.lenI
  have hB := ((Below.refl w.heap.size w).alloc (Nat.le_refl _) (.cells #[.slice A n c, .int .i64 st, .int .i64 sk, .int .i64 hp, .int .i64 rt] 44)).alloc (by simp) (.cells #[.slice none 0 0, .int .i64 0, .int .i64 0, .int .i64 0, .int .i64 0] 44)
  have hk := (Blk.new w 44 #[.slice A n c, .int .i64 st, .int .i64 sk, .int .i64 hp, .int .i64 rt]).alloc (.cells #[.slice none 0 0, .int .i64 0, .int .i64 0, .int .i64 0, .int .i64 0] 44)
  have hz := Blk.new (w.alloc (.cells #[.slice A n c, .int .i64 st, .int .i64 sk, .int .i64 hp, .int .i64 rt] 44)) 44 #[.slice none 0 0, .int .i64 0, .int .i64 0, .int .i64 0, .int .i64 0]
  rw [alloc_size] at hz
  have HR := Lib.hid (hr.below hB)
  clear hr
  cases hs : scB st sk hp rt l
  · have HE := Lib.hid (show scE st sk hp rt l = 8 from by simp [scE, hs])
    have HV := Lib.hid (show ctL st sk hp rt l k = [] ∧ ctE st sk hp rt l k = 8 from by constructor <;> simp [ctL, ctE, hs])
    clear hs
    go_enter Try.func18, Try.ntmps18
    go_wp2_with fail
    refine (check11_any A n c l st sk hp rt _ (HR.out.more hB.size) hn).mono ?_
    rintro e w1 ⟨rfl, b1⟩
    rw [HE.out]
    have hz1 := hz.below b1 hz.lt
    have hB1 := hB.trans (b1.mono hB.size)
    have hk1 := hk.below b1 hk.lt
    have z1_0 : w1.cell? ⟨w.heap.size + 1, 0, none⟩ = some (.slice none 0 0) := (hz1.cell 0).trans rfl
    have z1_1 : w1.cell? ⟨w.heap.size + 1, 1, none⟩ = some (.int .i64 0) := (hz1.cell 1).trans rfl
    have z1_2 : w1.cell? ⟨w.heap.size + 1, 2, none⟩ = some (.int .i64 0) := (hz1.cell 2).trans rfl
    have z1_3 : w1.cell? ⟨w.heap.size + 1, 3, none⟩ = some (.int .i64 0) := (hz1.cell 3).trans rfl
    have z1_4 : w1.cell? ⟨w.heap.size + 1, 4, none⟩ = some (.int .i64 0) := (hz1.cell 4).trans rfl
    have z1_f0 := hz1.frozen 0
    have z1_f1 := hz1.frozen 1
    have z1_f2 := hz1.frozen 2
    have z1_f3 := hz1.frozen 3
    have z1_f4 := hz1.frozen 4
    have k1_0 : w1.cell? ⟨w.heap.size, 0, none⟩ = some (.slice A n c) := (hk1.cell 0).trans rfl
    have k1_1 : w1.cell? ⟨w.heap.size, 1, none⟩ = some (.int .i64 st) := (hk1.cell 1).trans rfl
    have k1_2 : w1.cell? ⟨w.heap.size, 2, none⟩ = some (.int .i64 sk) := (hk1.cell 2).trans rfl
    have k1_3 : w1.cell? ⟨w.heap.size, 3, none⟩ = some (.int .i64 hp) := (hk1.cell 3).trans rfl
    have k1_4 : w1.cell? ⟨w.heap.size, 4, none⟩ = some (.int .i64 rt) := (hk1.cell 4).trans rfl
    have k1_f0 := hk1.frozen 0
    have k1_f1 := hk1.frozen 1
    have k1_f2 := hk1.frozen 2
    have k1_f3 := hk1.frozen 3
    have k1_f4 := hk1.frozen 4

    go_wp2_with fail
    refine ret_c1 rfl scrT rfl (by repeat (first | with_reducible exact hz1 | with_reducible (apply Blk.set_) | with_reducible (apply Blk.far; case hp => (simp <;> omega)) | with_reducible (apply Blk.alloc) | with_reducible (apply Blk.drew))) (by rfl) ?_
    exact ⟨none, 0, by rw [HV.out.1, HV.out.2]; rfl, by rw [HV.out.1]; exact World.ownsRow_nil _ _ _ _, (by have hs_ := hB1.size; repeat (first | with_reducible exact hB1 | with_reducible (refine Below.setCell ?_ (by simp <;> omega) _) | with_reducible (refine Below.alloc ?_ (by simp <;> omega) _) | with_reducible (refine Below.drew ?_)))⟩

  have HE := Lib.hid (show scE st sk hp rt l = 0 from by simp [scE, hs])
  have hn2 : n ≤ 2000 := by have := (sc_parts hs).2.2.2.2.1; rw [HL.out] at this; exact this
  cases hi : inB k 0 (n : Int)
  · skip
    have HV := Lib.hid (show ctL st sk hp rt l k = [] ∧ ctE st sk hp rt l k = 2 from by constructor <;> simp [ctL, ctE, hs, HL.out, hi])
    clear hs
    go_enter Try.func18, Try.ntmps18
    go_wp2_with fail
    refine (check11_any A n c l st sk hp rt _ (HR.out.more hB.size) hn).mono ?_
    rintro e w1 ⟨rfl, b1⟩
    rw [HE.out]
    have hz1 := hz.below b1 hz.lt
    have hB1 := hB.trans (b1.mono hB.size)
    have hk1 := hk.below b1 hk.lt
    have z1_0 : w1.cell? ⟨w.heap.size + 1, 0, none⟩ = some (.slice none 0 0) := (hz1.cell 0).trans rfl
    have z1_1 : w1.cell? ⟨w.heap.size + 1, 1, none⟩ = some (.int .i64 0) := (hz1.cell 1).trans rfl
    have z1_2 : w1.cell? ⟨w.heap.size + 1, 2, none⟩ = some (.int .i64 0) := (hz1.cell 2).trans rfl
    have z1_3 : w1.cell? ⟨w.heap.size + 1, 3, none⟩ = some (.int .i64 0) := (hz1.cell 3).trans rfl
    have z1_4 : w1.cell? ⟨w.heap.size + 1, 4, none⟩ = some (.int .i64 0) := (hz1.cell 4).trans rfl
    have z1_f0 := hz1.frozen 0
    have z1_f1 := hz1.frozen 1
    have z1_f2 := hz1.frozen 2
    have z1_f3 := hz1.frozen 3
    have z1_f4 := hz1.frozen 4
    have k1_0 : w1.cell? ⟨w.heap.size, 0, none⟩ = some (.slice A n c) := (hk1.cell 0).trans rfl
    have k1_1 : w1.cell? ⟨w.heap.size, 1, none⟩ = some (.int .i64 st) := (hk1.cell 1).trans rfl
    have k1_2 : w1.cell? ⟨w.heap.size, 2, none⟩ = some (.int .i64 sk) := (hk1.cell 2).trans rfl
    have k1_3 : w1.cell? ⟨w.heap.size, 3, none⟩ = some (.int .i64 hp) := (hk1.cell 3).trans rfl
    have k1_4 : w1.cell? ⟨w.heap.size, 4, none⟩ = some (.int .i64 rt) := (hk1.cell 4).trans rfl
    have k1_f0 := hk1.frozen 0
    have k1_f1 := hk1.frozen 1
    have k1_f2 := hk1.frozen 2
    have k1_f3 := hk1.frozen 3
    have k1_f4 := hk1.frozen 4

    go_wp2_with (go_at_call 58; refine (within_any _ _ _ _).mono ?_; rintro e wq ⟨rfl, rfl⟩)
    refine ret_c1 rfl scrT rfl (by repeat (first | with_reducible exact hz1 | with_reducible (apply Blk.set_) | with_reducible (apply Blk.far; case hp => (simp <;> omega)) | with_reducible (apply Blk.alloc) | with_reducible (apply Blk.drew))) (by rfl) ?_
    exact ⟨none, 0, by rw [HV.out.1, HV.out.2]; rfl, by rw [HV.out.1]; exact World.ownsRow_nil _ _ _ _, (by have hs_ := hB1.size; repeat (first | with_reducible exact hB1 | with_reducible (refine Below.setCell ?_ (by simp <;> omega) _) | with_reducible (refine Below.alloc ?_ (by simp <;> omega) _) | with_reducible (refine Below.drew ?_)))⟩
  obtain ⟨hk0, hkn⟩ := inB_true.1 hi
  obtain ⟨q, rfl⟩ : ∃ q : Nat, k = (q : Int) := ⟨k.toNat, by omega⟩
  have he : ctE st sk hp rt l (q : Int) = 0 := by simp [ctE, hs, HL.out, hi]
  have HLT := Lib.hid (show (l.take q).length = q from by rw [List.length_take, HL.out]; omega)
  have HV := Lib.hid (show ctL st sk hp rt l (q : Int) = l.take q ∧ ctE st sk hp rt l (q : Int) = 0 from ⟨by unfold ctL; rw [if_pos he, Int.toNat_natCast], he⟩)
  have HI := Lib.hid hi
  have hqc : (q : Int) ≤ (c : Int) := by omega
  clear hs he hi
  go_enter Try.func18, Try.ntmps18
  go_wp2_with fail
  refine (check11_any A n c l st sk hp rt _ (HR.out.more hB.size) hn).mono ?_
  rintro e w1 ⟨rfl, b1⟩
  rw [HE.out]
  have hz1 := hz.below b1 hz.lt
  have hB1 := hB.trans (b1.mono hB.size)
  have hk1 := hk.below b1 hk.lt
  have z1_0 : w1.cell? ⟨w.heap.size + 1, 0, none⟩ = some (.slice none 0 0) := (hz1.cell 0).trans rfl
  have z1_1 : w1.cell? ⟨w.heap.size + 1, 1, none⟩ = some (.int .i64 0) := (hz1.cell 1).trans rfl
  have z1_2 : w1.cell? ⟨w.heap.size + 1, 2, none⟩ = some (.int .i64 0) := (hz1.cell 2).trans rfl
  have z1_3 : w1.cell? ⟨w.heap.size + 1, 3, none⟩ = some (.int .i64 0) := (hz1.cell 3).trans rfl
  have z1_4 : w1.cell? ⟨w.heap.size + 1, 4, none⟩ = some (.int .i64 0) := (hz1.cell 4).trans rfl
  have z1_f0 := hz1.frozen 0
  have z1_f1 := hz1.frozen 1
  have z1_f2 := hz1.frozen 2
  have z1_f3 := hz1.frozen 3
  have z1_f4 := hz1.frozen 4
  have k1_0 : w1.cell? ⟨w.heap.size, 0, none⟩ = some (.slice A n c) := (hk1.cell 0).trans rfl
  have k1_1 : w1.cell? ⟨w.heap.size, 1, none⟩ = some (.int .i64 st) := (hk1.cell 1).trans rfl
  have k1_2 : w1.cell? ⟨w.heap.size, 2, none⟩ = some (.int .i64 sk) := (hk1.cell 2).trans rfl
  have k1_3 : w1.cell? ⟨w.heap.size, 3, none⟩ = some (.int .i64 hp) := (hk1.cell 3).trans rfl
  have k1_4 : w1.cell? ⟨w.heap.size, 4, none⟩ = some (.int .i64 rt) := (hk1.cell 4).trans rfl
  have k1_f0 := hk1.frozen 0
  have k1_f1 := hk1.frozen 1
  have k1_f2 := hk1.frozen 2
  have k1_f3 := hk1.frozen 3
  have k1_f4 := hk1.frozen 4

  have RS := Lib.hid (show RdI w1 w1.heap.size A q (l.take q) from by
    have h := Reads.first ((HR.out.below (b1.mono hB.size)).more hB1.size) (show q ≤ n by omega)
    rw [Nat.mul_one, ← List.map_take] at h
    exact h)
  go_wp2_with (go_at_call 58; refine (within_any _ _ _ _).mono ?_; rintro e wq ⟨rfl, rfl⟩; rw [HI.out])
  refine (clone_any A q c (l.take q) _ RS.out (by omega)).mono ?_
  rintro e w2 ⟨A2, c2, rfl, o2, b2⟩
  clear z1_0 z1_1 z1_2 z1_3 z1_4 z1_f0 z1_f1 z1_f2 z1_f3 z1_f4 k1_0 k1_1 k1_2 k1_3 k1_4 k1_f0 k1_f1 k1_f2 k1_f3 k1_f4
  have o3 := own_low o2 hB1.size
  have hz2 := hz1.below b2 hz1.lt
  have hB2 := hB1.trans (b2.mono hB1.size)
  have hk2 := hk1.below b2 hk1.lt
  have z2_0 : w2.cell? ⟨w.heap.size + 1, 0, none⟩ = some (.slice none 0 0) := (hz2.cell 0).trans rfl
  have z2_1 : w2.cell? ⟨w.heap.size + 1, 1, none⟩ = some (.int .i64 0) := (hz2.cell 1).trans rfl
  have z2_2 : w2.cell? ⟨w.heap.size + 1, 2, none⟩ = some (.int .i64 0) := (hz2.cell 2).trans rfl
  have z2_3 : w2.cell? ⟨w.heap.size + 1, 3, none⟩ = some (.int .i64 0) := (hz2.cell 3).trans rfl
  have z2_4 : w2.cell? ⟨w.heap.size + 1, 4, none⟩ = some (.int .i64 0) := (hz2.cell 4).trans rfl
  have z2_f0 := hz2.frozen 0
  have z2_f1 := hz2.frozen 1
  have z2_f2 := hz2.frozen 2
  have z2_f3 := hz2.frozen 3
  have z2_f4 := hz2.frozen 4
  have k2_0 : w2.cell? ⟨w.heap.size, 0, none⟩ = some (.slice A n c) := (hk2.cell 0).trans rfl
  have k2_1 : w2.cell? ⟨w.heap.size, 1, none⟩ = some (.int .i64 st) := (hk2.cell 1).trans rfl
  have k2_2 : w2.cell? ⟨w.heap.size, 2, none⟩ = some (.int .i64 sk) := (hk2.cell 2).trans rfl
  have k2_3 : w2.cell? ⟨w.heap.size, 3, none⟩ = some (.int .i64 hp) := (hk2.cell 3).trans rfl
  have k2_4 : w2.cell? ⟨w.heap.size, 4, none⟩ = some (.int .i64 rt) := (hk2.cell 4).trans rfl
  have k2_f0 := hk2.frozen 0
  have k2_f1 := hk2.frozen 1
  have k2_f2 := hk2.frozen 2
  have k2_f3 := hk2.frozen 3
  have k2_f4 := hk2.frozen 4

  have hk3 := hk2.set_ 0 (.slice A2 q c2)
  have hz3 := hz2.far (p := ⟨w.heap.size, 0, none⟩) (show w.heap.size + 1 ≠ w.heap.size by omega) (.slice A2 q c2)
  have hB3 := hB2.setCell (p := ⟨w.heap.size, 0, none⟩) (Nat.le_refl _) (.slice A2 q c2)
  have k3_0 : (w2.setCell ⟨w.heap.size, 0, none⟩ (.slice A2 q c2)).cell? ⟨w.heap.size, 0, none⟩ = some (.slice A2 q c2) := (hk3.cell 0).trans rfl
  have k3_1 : (w2.setCell ⟨w.heap.size, 0, none⟩ (.slice A2 q c2)).cell? ⟨w.heap.size, 1, none⟩ = some (.int .i64 st) := (hk3.cell 1).trans rfl
  have k3_2 : (w2.setCell ⟨w.heap.size, 0, none⟩ (.slice A2 q c2)).cell? ⟨w.heap.size, 2, none⟩ = some (.int .i64 sk) := (hk3.cell 2).trans rfl
  have k3_3 : (w2.setCell ⟨w.heap.size, 0, none⟩ (.slice A2 q c2)).cell? ⟨w.heap.size, 3, none⟩ = some (.int .i64 hp) := (hk3.cell 3).trans rfl
  have k3_4 : (w2.setCell ⟨w.heap.size, 0, none⟩ (.slice A2 q c2)).cell? ⟨w.heap.size, 4, none⟩ = some (.int .i64 rt) := (hk3.cell 4).trans rfl
  have z3_0 : (w2.setCell ⟨w.heap.size, 0, none⟩ (.slice A2 q c2)).cell? ⟨w.heap.size + 1, 0, none⟩ = some (.slice none 0 0) := (hz3.cell 0).trans rfl
  have z3_1 : (w2.setCell ⟨w.heap.size, 0, none⟩ (.slice A2 q c2)).cell? ⟨w.heap.size + 1, 1, none⟩ = some (.int .i64 0) := (hz3.cell 1).trans rfl
  have z3_2 : (w2.setCell ⟨w.heap.size, 0, none⟩ (.slice A2 q c2)).cell? ⟨w.heap.size + 1, 2, none⟩ = some (.int .i64 0) := (hz3.cell 2).trans rfl
  have z3_3 : (w2.setCell ⟨w.heap.size, 0, none⟩ (.slice A2 q c2)).cell? ⟨w.heap.size + 1, 3, none⟩ = some (.int .i64 0) := (hz3.cell 3).trans rfl
  have z3_4 : (w2.setCell ⟨w.heap.size, 0, none⟩ (.slice A2 q c2)).cell? ⟨w.heap.size + 1, 4, none⟩ = some (.int .i64 0) := (hz3.cell 4).trans rfl
  have z3_f0 := hz3.frozen 0
  have z3_f1 := hz3.frozen 1
  have z3_f2 := hz3.frozen 2
  have z3_f3 := hz3.frozen 3
  have z3_f4 := hz3.frozen 4
  go_wp2_with fail
  refine ret_c1 rfl scrT rfl (by repeat (first | with_reducible exact hz3 | with_reducible (apply Blk.set_) | with_reducible (apply Blk.far; case hp => (simp <;> omega)) | with_reducible (apply Blk.alloc) | with_reducible (apply Blk.drew))) (by rfl) ?_
  exact ⟨A2, c2, by rw [HV.out.1, HV.out.2, HLT.out]; rfl, by rw [HV.out.1, HLT.out]; exact own11 o2 hB1.size hz1.lt, (by have hs_ := hB3.size; repeat (first | with_reducible exact hB3 | with_reducible (refine Below.setCell ?_ (by simp <;> omega) _) | with_reducible (refine Below.alloc ?_ (by simp <;> omega) _) | with_reducible (refine Below.drew ?_)))⟩

end Go.Proofs.Ytldaijkcmnnjpaa
