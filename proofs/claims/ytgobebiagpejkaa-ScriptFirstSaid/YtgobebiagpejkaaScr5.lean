/- Contracts of Cut and of the reference's. Each states its conditions. -/
import Derived.Test.YtgobebiagpejkaaScr4
namespace Go.Proofs.Ytgobebiagpejkaa
open Go.RowKit Wire
set_option linter.unusedVariables false

set_option maxRecDepth 100000 in
set_option maxHeartbeats 1600000 in
theorem clone_any (A : Option Addr) (n c : Nat) (l : List Int) (w : World) (hr : RdI w w.heap.size A n l) (hn : n ≤ 1000000) :
    Calls Try.prog 30 #[.slice A n c] w fun e w' => ∃ A' c', e = .returned (.slice A' n c') ∧ w'.ownsRow w.heap.size 3 1 (.slice A' n c') n (l.map vI) ∧ Below w.heap.size w w' := by
  have hB1 := (Below.refl w.heap.size w).alloc (Nat.le_refl _) (.cells #[] 3)
  rcases A with _ | ad
  · have h0 : n = 0 := by
      rcases Nat.eq_zero_or_pos n with h | h
      · exact h
      · obtain ⟨ad, h2, _⟩ := hr.2 h
        cases h2
    have he := fun W => Lib.run_eql_slice_nil_nil (P := Try.prog) W (t := 27) (e := 3) n c Try.underlying27
    subst h0
    have hl : l = [] := List.eq_nil_of_length_eq_zero hr.lenI
    subst hl
    go_enter Try.func30, Try.ntmps30
    go_wp2_with fail
    go_ret
    exact ⟨none, 0, rfl, World.ownsRow_nil _ _ _ _, Below.refl _ _⟩
  · have he := fun W => Lib.run_eql_slice_some_nil (P := Try.prog) W (t := 27) (e := 3) ad n c Try.underlying27
    have HR := Lib.hid (hr.below hB1)
    clear hr
    go_enter Try.func30, Try.ntmps30
    go_wp2_with (at_builtin; refine wpList_app rfl (.tmp 5) (.tmp 6) _ (by rfl) slI w.heap.size _ 0 [] (by rfl) (own_empty_at rfl (Nat.le_refl _) _ _) _ (some ad) n c (l.map vI) (by rfl) HR.out (vI_one _) (by omega) (by simp) ?_; intro A3 c3 w3 o3 hg3 b3 hc3)
    rw [Nat.zero_add] at *
    go_ret
    exact ⟨A3, c3, rfl, o3, hB1.trans b3⟩

/-- What Cut answers. -/
def ctE (st sk hp rt : Int) (l : List Int) (k : Int) : Int := if scB st sk hp rt l then (if inB k 0 l.length then 0 else 2) else 8
def ctL (st sk hp rt : Int) (l : List Int) (k : Int) : List Int := if ctE st sk hp rt l k = 0 then l.take k.toNat else []
def ctZ (e x : Int) : Int := if e = 0 then x else 0

theorem own11 {w : World} {base B : Nat} {A : Option Addr} {n c : Nat} {xs : List Value} {v0 v1 v2 v3 v4 v5 : Value} (h : w.ownsRow base 3 1 (.slice A n c) n xs) (hB : B ≤ base) (hg : B + 1 < base) :
    (((((((w.setCell ⟨B, 0, none⟩ v0).setCell ⟨B + 1, 0, none⟩ v1).setCell ⟨B + 1, 1, none⟩ v2).setCell ⟨B + 1, 2, none⟩ v3).setCell ⟨B + 1, 3, none⟩ v4).setCell ⟨B + 1, 4, none⟩ v5)).ownsRow B 3 1 (.slice A n c) n xs :=
  own_low (own_far (own_far (own_far (own_far (own_far (own_far h (by omega) _) (by omega) _) (by omega) _) (by omega) _) (by omega) _) (by omega) _) hB
theorem own11' {w : World} {base B : Nat} {A : Option Addr} {n c : Nat} {xs : List Value} {v1 v2 v3 v4 v5 : Value} (h : w.ownsRow base 3 1 (.slice A n c) n xs) (hB : B ≤ base) (hg : B + 1 < base) :
    ((((((w.setCell ⟨B + 1, 0, none⟩ v1).setCell ⟨B + 1, 1, none⟩ v2).setCell ⟨B + 1, 2, none⟩ v3).setCell ⟨B + 1, 3, none⟩ v4).setCell ⟨B + 1, 4, none⟩ v5)).ownsRow B 3 1 (.slice A n c) n xs :=
  own_low (own_far (own_far (own_far (own_far (own_far h (by omega) _) (by omega) _) (by omega) _) (by omega) _) (by omega) _) hB

set_option maxRecDepth 100000 in
set_option maxHeartbeats 4000000 in
theorem cut_any (A : Option Addr) (n c : Nat) (l : List Int) (st sk hp rt k : Int) (w : World) (hr : RdI w w.heap.size A n l) (hn : n ≤ 9223372036854775807) (hnc : n ≤ c) (hkb : -9223372036854775808 ≤ k ∧ k ≤ 9223372036854775807) :
    Calls Try.prog 15 #[scr A n c st sk hp rt, .int .i64 k] w fun e w' => ∃ A' c', e = .returned (.tuple #[scr A' (ctL st sk hp rt l k).length c' (ctZ (ctE st sk hp rt l k) st) (ctZ (ctE st sk hp rt l k) sk) (ctZ (ctE st sk hp rt l k) hp) (ctZ (ctE st sk hp rt l k) rt), .int .i64 (ctE st sk hp rt l k)]) ∧ w'.ownsRow w.heap.size 3 1 (.slice A' (ctL st sk hp rt l k).length c') (ctL st sk hp rt l k).length ((ctL st sk hp rt l k).map vI) ∧ Below w.heap.size w w' := by
  have HL := Lib.hid hr.lenI
  have hB := ((Below.refl w.heap.size w).alloc (Nat.le_refl _) (.cells #[.slice A n c, .int .i64 st, .int .i64 sk, .int .i64 hp, .int .i64 rt] 31)).alloc (by simp) (.cells #[.slice none 0 0, .int .i64 0, .int .i64 0, .int .i64 0, .int .i64 0] 31)
  have hk := (Blk.new w 31 #[.slice A n c, .int .i64 st, .int .i64 sk, .int .i64 hp, .int .i64 rt]).alloc (.cells #[.slice none 0 0, .int .i64 0, .int .i64 0, .int .i64 0, .int .i64 0] 31)
  have hz := Blk.new (w.alloc (.cells #[.slice A n c, .int .i64 st, .int .i64 sk, .int .i64 hp, .int .i64 rt] 31)) 31 #[.slice none 0 0, .int .i64 0, .int .i64 0, .int .i64 0, .int .i64 0]
  rw [alloc_size] at hz
  have HR := Lib.hid (hr.below hB)
  clear hr
  cases hs : scB st sk hp rt l
  · have HE := Lib.hid (show scE st sk hp rt l = 8 from by simp [scE, hs])
    have HV := Lib.hid (show ctL st sk hp rt l k = [] ∧ ctE st sk hp rt l k = 8 from by constructor <;> simp [ctL, ctE, hs])
    clear hs
    go_enter Try.func15, Try.ntmps15
    go_wp2_with fail
    refine (check11_any A n c l st sk hp rt _ (HR.out.more hB.size) hn).mono ?_
    rintro e w1 ⟨rfl, b1⟩
    rw [HE.out]
    have hz1 := hz.below b1 hz.lt
    have hB1 := hB.trans (b1.mono hB.size)
    have hk1 := hk.below b1 hk.lt
    have z1_0 : w1.cell? ⟨w.heap.size + 1, 0, none⟩ = some (.slice none 0 0) := (hz1.cell 0).trans rfl
    have z1_1 : w1.cell? ⟨w.heap.size + 1, 1, none⟩ = some (.int .i64 0) := (hz1.cell 1).trans rfl
    have z1_2 : w1.cell? ⟨w.heap.size + 1, 2, none⟩ = some (.int .i64 0) := (hz1.cell 2).trans rfl
    have z1_3 : w1.cell? ⟨w.heap.size + 1, 3, none⟩ = some (.int .i64 0) := (hz1.cell 3).trans rfl
    have z1_4 : w1.cell? ⟨w.heap.size + 1, 4, none⟩ = some (.int .i64 0) := (hz1.cell 4).trans rfl
    have z1_f0 := hz1.frozen 0
    have z1_f1 := hz1.frozen 1
    have z1_f2 := hz1.frozen 2
    have z1_f3 := hz1.frozen 3
    have z1_f4 := hz1.frozen 4
    have k1_0 : w1.cell? ⟨w.heap.size, 0, none⟩ = some (.slice A n c) := (hk1.cell 0).trans rfl
    have k1_1 : w1.cell? ⟨w.heap.size, 1, none⟩ = some (.int .i64 st) := (hk1.cell 1).trans rfl
    have k1_2 : w1.cell? ⟨w.heap.size, 2, none⟩ = some (.int .i64 sk) := (hk1.cell 2).trans rfl
    have k1_3 : w1.cell? ⟨w.heap.size, 3, none⟩ = some (.int .i64 hp) := (hk1.cell 3).trans rfl
    have k1_4 : w1.cell? ⟨w.heap.size, 4, none⟩ = some (.int .i64 rt) := (hk1.cell 4).trans rfl
    have k1_f0 := hk1.frozen 0
    have k1_f1 := hk1.frozen 1
    have k1_f2 := hk1.frozen 2
    have k1_f3 := hk1.frozen 3
    have k1_f4 := hk1.frozen 4

    go_wp2_with fail
    refine ret_c1 rfl scrT rfl (by repeat (first | with_reducible exact hz1 | with_reducible (apply Blk.set_) | with_reducible (apply Blk.far; case hp => (simp <;> omega)) | with_reducible (apply Blk.alloc) | with_reducible (apply Blk.drew))) (by rfl) ?_
    exact ⟨none, 0, by rw [HV.out.1, HV.out.2]; rfl, by rw [HV.out.1]; exact World.ownsRow_nil _ _ _ _, (by have hs_ := hB1.size; repeat (first | with_reducible exact hB1 | with_reducible (refine Below.setCell ?_ (by simp <;> omega) _) | with_reducible (refine Below.alloc ?_ (by simp <;> omega) _) | with_reducible (refine Below.drew ?_)))⟩

  have HE := Lib.hid (show scE st sk hp rt l = 0 from by simp [scE, hs])
  have hn2 : n ≤ 2000 := by have := (sc_parts hs).2.2.2.2.1; rw [HL.out] at this; exact this
  cases hi : inB k 0 (n : Int)
  · skip
    have HV := Lib.hid (show ctL st sk hp rt l k = [] ∧ ctE st sk hp rt l k = 2 from by constructor <;> simp [ctL, ctE, hs, HL.out, hi])
    clear hs
    go_enter Try.func15, Try.ntmps15
    go_wp2_with fail
    refine (check11_any A n c l st sk hp rt _ (HR.out.more hB.size) hn).mono ?_
    rintro e w1 ⟨rfl, b1⟩
    rw [HE.out]
    have hz1 := hz.below b1 hz.lt
    have hB1 := hB.trans (b1.mono hB.size)
    have hk1 := hk.below b1 hk.lt
    have z1_0 : w1.cell? ⟨w.heap.size + 1, 0, none⟩ = some (.slice none 0 0) := (hz1.cell 0).trans rfl
    have z1_1 : w1.cell? ⟨w.heap.size + 1, 1, none⟩ = some (.int .i64 0) := (hz1.cell 1).trans rfl
    have z1_2 : w1.cell? ⟨w.heap.size + 1, 2, none⟩ = some (.int .i64 0) := (hz1.cell 2).trans rfl
    have z1_3 : w1.cell? ⟨w.heap.size + 1, 3, none⟩ = some (.int .i64 0) := (hz1.cell 3).trans rfl
    have z1_4 : w1.cell? ⟨w.heap.size + 1, 4, none⟩ = some (.int .i64 0) := (hz1.cell 4).trans rfl
    have z1_f0 := hz1.frozen 0
    have z1_f1 := hz1.frozen 1
    have z1_f2 := hz1.frozen 2
    have z1_f3 := hz1.frozen 3
    have z1_f4 := hz1.frozen 4
    have k1_0 : w1.cell? ⟨w.heap.size, 0, none⟩ = some (.slice A n c) := (hk1.cell 0).trans rfl
    have k1_1 : w1.cell? ⟨w.heap.size, 1, none⟩ = some (.int .i64 st) := (hk1.cell 1).trans rfl
    have k1_2 : w1.cell? ⟨w.heap.size, 2, none⟩ = some (.int .i64 sk) := (hk1.cell 2).trans rfl
    have k1_3 : w1.cell? ⟨w.heap.size, 3, none⟩ = some (.int .i64 hp) := (hk1.cell 3).trans rfl
    have k1_4 : w1.cell? ⟨w.heap.size, 4, none⟩ = some (.int .i64 rt) := (hk1.cell 4).trans rfl
    have k1_f0 := hk1.frozen 0
    have k1_f1 := hk1.frozen 1
    have k1_f2 := hk1.frozen 2
    have k1_f3 := hk1.frozen 3
    have k1_f4 := hk1.frozen 4

    go_wp2_with (go_at_call 26; refine (within_any _ _ _ _).mono ?_; rintro e wq ⟨rfl, rfl⟩)
    refine ret_c1 rfl scrT rfl (by repeat (first | with_reducible exact hz1 | with_reducible (apply Blk.set_) | with_reducible (apply Blk.far; case hp => (simp <;> omega)) | with_reducible (apply Blk.alloc) | with_reducible (apply Blk.drew))) (by rfl) ?_
    exact ⟨none, 0, by rw [HV.out.1, HV.out.2]; rfl, by rw [HV.out.1]; exact World.ownsRow_nil _ _ _ _, (by have hs_ := hB1.size; repeat (first | with_reducible exact hB1 | with_reducible (refine Below.setCell ?_ (by simp <;> omega) _) | with_reducible (refine Below.alloc ?_ (by simp <;> omega) _) | with_reducible (refine Below.drew ?_)))⟩
  obtain ⟨hk0, hkn⟩ := inB_true.1 hi
  obtain ⟨q, rfl⟩ : ∃ q : Nat, k = (q : Int) := ⟨k.toNat, by omega⟩
  have he : ctE st sk hp rt l (q : Int) = 0 := by simp [ctE, hs, HL.out, hi]
  have HLT := Lib.hid (show (l.take q).length = q from by rw [List.length_take, HL.out]; omega)
  have HV := Lib.hid (show ctL st sk hp rt l (q : Int) = l.take q ∧ ctE st sk hp rt l (q : Int) = 0 from ⟨by unfold ctL; rw [if_pos he, Int.toNat_natCast], he⟩)
  have HI := Lib.hid hi
  have hqc : (q : Int) ≤ (c : Int) := by omega
  clear hs he hi
  go_enter Try.func15, Try.ntmps15
  go_wp2_with fail
  refine (check11_any A n c l st sk hp rt _ (HR.out.more hB.size) hn).mono ?_
  rintro e w1 ⟨rfl, b1⟩
  rw [HE.out]
  have hz1 := hz.below b1 hz.lt
  have hB1 := hB.trans (b1.mono hB.size)
  have hk1 := hk.below b1 hk.lt
  have z1_0 : w1.cell? ⟨w.heap.size + 1, 0, none⟩ = some (.slice none 0 0) := (hz1.cell 0).trans rfl
  have z1_1 : w1.cell? ⟨w.heap.size + 1, 1, none⟩ = some (.int .i64 0) := (hz1.cell 1).trans rfl
  have z1_2 : w1.cell? ⟨w.heap.size + 1, 2, none⟩ = some (.int .i64 0) := (hz1.cell 2).trans rfl
  have z1_3 : w1.cell? ⟨w.heap.size + 1, 3, none⟩ = some (.int .i64 0) := (hz1.cell 3).trans rfl
  have z1_4 : w1.cell? ⟨w.heap.size + 1, 4, none⟩ = some (.int .i64 0) := (hz1.cell 4).trans rfl
  have z1_f0 := hz1.frozen 0
  have z1_f1 := hz1.frozen 1
  have z1_f2 := hz1.frozen 2
  have z1_f3 := hz1.frozen 3
  have z1_f4 := hz1.frozen 4
  have k1_0 : w1.cell? ⟨w.heap.size, 0, none⟩ = some (.slice A n c) := (hk1.cell 0).trans rfl
  have k1_1 : w1.cell? ⟨w.heap.size, 1, none⟩ = some (.int .i64 st) := (hk1.cell 1).trans rfl
  have k1_2 : w1.cell? ⟨w.heap.size, 2, none⟩ = some (.int .i64 sk) := (hk1.cell 2).trans rfl
  have k1_3 : w1.cell? ⟨w.heap.size, 3, none⟩ = some (.int .i64 hp) := (hk1.cell 3).trans rfl
  have k1_4 : w1.cell? ⟨w.heap.size, 4, none⟩ = some (.int .i64 rt) := (hk1.cell 4).trans rfl
  have k1_f0 := hk1.frozen 0
  have k1_f1 := hk1.frozen 1
  have k1_f2 := hk1.frozen 2
  have k1_f3 := hk1.frozen 3
  have k1_f4 := hk1.frozen 4

  have RS := Lib.hid (show RdI w1 w1.heap.size A q (l.take q) from by
    have h := Reads.first ((HR.out.below (b1.mono hB.size)).more hB1.size) (show q ≤ n by omega)
    rw [Nat.mul_one, ← List.map_take] at h
    exact h)
  go_wp2_with (go_at_call 26; refine (within_any _ _ _ _).mono ?_; rintro e wq ⟨rfl, rfl⟩; rw [HI.out])
  refine (clone_any A q c (l.take q) _ RS.out (by omega)).mono ?_
  rintro e w2 ⟨A2, c2, rfl, o2, b2⟩
  clear z1_0 z1_1 z1_2 z1_3 z1_4 z1_f0 z1_f1 z1_f2 z1_f3 z1_f4 k1_0 k1_1 k1_2 k1_3 k1_4 k1_f0 k1_f1 k1_f2 k1_f3 k1_f4
  have o3 := own_low o2 hB1.size
  have hz2 := hz1.below b2 hz1.lt
  have hB2 := hB1.trans (b2.mono hB1.size)
  have hk2 := hk1.below b2 hk1.lt
  have z2_0 : w2.cell? ⟨w.heap.size + 1, 0, none⟩ = some (.slice none 0 0) := (hz2.cell 0).trans rfl
  have z2_1 : w2.cell? ⟨w.heap.size + 1, 1, none⟩ = some (.int .i64 0) := (hz2.cell 1).trans rfl
  have z2_2 : w2.cell? ⟨w.heap.size + 1, 2, none⟩ = some (.int .i64 0) := (hz2.cell 2).trans rfl
  have z2_3 : w2.cell? ⟨w.heap.size + 1, 3, none⟩ = some (.int .i64 0) := (hz2.cell 3).trans rfl
  have z2_4 : w2.cell? ⟨w.heap.size + 1, 4, none⟩ = some (.int .i64 0) := (hz2.cell 4).trans rfl
  have z2_f0 := hz2.frozen 0
  have z2_f1 := hz2.frozen 1
  have z2_f2 := hz2.frozen 2
  have z2_f3 := hz2.frozen 3
  have z2_f4 := hz2.frozen 4
  have k2_0 : w2.cell? ⟨w.heap.size, 0, none⟩ = some (.slice A n c) := (hk2.cell 0).trans rfl
  have k2_1 : w2.cell? ⟨w.heap.size, 1, none⟩ = some (.int .i64 st) := (hk2.cell 1).trans rfl
  have k2_2 : w2.cell? ⟨w.heap.size, 2, none⟩ = some (.int .i64 sk) := (hk2.cell 2).trans rfl
  have k2_3 : w2.cell? ⟨w.heap.size, 3, none⟩ = some (.int .i64 hp) := (hk2.cell 3).trans rfl
  have k2_4 : w2.cell? ⟨w.heap.size, 4, none⟩ = some (.int .i64 rt) := (hk2.cell 4).trans rfl
  have k2_f0 := hk2.frozen 0
  have k2_f1 := hk2.frozen 1
  have k2_f2 := hk2.frozen 2
  have k2_f3 := hk2.frozen 3
  have k2_f4 := hk2.frozen 4

  have hk3 := hk2.set_ 0 (.slice A2 q c2)
  have hz3 := hz2.far (p := ⟨w.heap.size, 0, none⟩) (show w.heap.size + 1 ≠ w.heap.size by omega) (.slice A2 q c2)
  have hB3 := hB2.setCell (p := ⟨w.heap.size, 0, none⟩) (Nat.le_refl _) (.slice A2 q c2)
  have k3_0 : (w2.setCell ⟨w.heap.size, 0, none⟩ (.slice A2 q c2)).cell? ⟨w.heap.size, 0, none⟩ = some (.slice A2 q c2) := (hk3.cell 0).trans rfl
  have k3_1 : (w2.setCell ⟨w.heap.size, 0, none⟩ (.slice A2 q c2)).cell? ⟨w.heap.size, 1, none⟩ = some (.int .i64 st) := (hk3.cell 1).trans rfl
  have k3_2 : (w2.setCell ⟨w.heap.size, 0, none⟩ (.slice A2 q c2)).cell? ⟨w.heap.size, 2, none⟩ = some (.int .i64 sk) := (hk3.cell 2).trans rfl
  have k3_3 : (w2.setCell ⟨w.heap.size, 0, none⟩ (.slice A2 q c2)).cell? ⟨w.heap.size, 3, none⟩ = some (.int .i64 hp) := (hk3.cell 3).trans rfl
  have k3_4 : (w2.setCell ⟨w.heap.size, 0, none⟩ (.slice A2 q c2)).cell? ⟨w.heap.size, 4, none⟩ = some (.int .i64 rt) := (hk3.cell 4).trans rfl
  have z3_0 : (w2.setCell ⟨w.heap.size, 0, none⟩ (.slice A2 q c2)).cell? ⟨w.heap.size + 1, 0, none⟩ = some (.slice none 0 0) := (hz3.cell 0).trans rfl
  have z3_1 : (w2.setCell ⟨w.heap.size, 0, none⟩ (.slice A2 q c2)).cell? ⟨w.heap.size + 1, 1, none⟩ = some (.int .i64 0) := (hz3.cell 1).trans rfl
  have z3_2 : (w2.setCell ⟨w.heap.size, 0, none⟩ (.slice A2 q c2)).cell? ⟨w.heap.size + 1, 2, none⟩ = some (.int .i64 0) := (hz3.cell 2).trans rfl
  have z3_3 : (w2.setCell ⟨w.heap.size, 0, none⟩ (.slice A2 q c2)).cell? ⟨w.heap.size + 1, 3, none⟩ = some (.int .i64 0) := (hz3.cell 3).trans rfl
  have z3_4 : (w2.setCell ⟨w.heap.size, 0, none⟩ (.slice A2 q c2)).cell? ⟨w.heap.size + 1, 4, none⟩ = some (.int .i64 0) := (hz3.cell 4).trans rfl
  have z3_f0 := hz3.frozen 0
  have z3_f1 := hz3.frozen 1
  have z3_f2 := hz3.frozen 2
  have z3_f3 := hz3.frozen 3
  have z3_f4 := hz3.frozen 4
  go_wp2_with fail
  refine ret_c1 rfl scrT rfl (by repeat (first | with_reducible exact hz3 | with_reducible (apply Blk.set_) | with_reducible (apply Blk.far; case hp => (simp <;> omega)) | with_reducible (apply Blk.alloc) | with_reducible (apply Blk.drew))) (by rfl) ?_
  exact ⟨A2, c2, by rw [HV.out.1, HV.out.2, HLT.out]; rfl, by rw [HV.out.1, HLT.out]; exact own11 o2 hB1.size hz1.lt, (by have hs_ := hB3.size; repeat (first | with_reducible exact hB3 | with_reducible (refine Below.setCell ?_ (by simp <;> omega) _) | with_reducible (refine Below.alloc ?_ (by simp <;> omega) _) | with_reducible (refine Below.drew ?_)))⟩

set_option maxRecDepth 100000 in
set_option maxHeartbeats 4000000 in
theorem recut_any (A : Option Addr) (n c : Nat) (l : List Int) (st sk hp rt k : Int) (w : World) (hr : RdI w w.heap.size A n l) (hn : n ≤ 9223372036854775807) (hnc : n ≤ c) (hkb : -9223372036854775808 ≤ k ∧ k ≤ 9223372036854775807) :
    Calls Try.prog 16 #[scr A n c st sk hp rt, .int .i64 k] w fun e w' => ∃ A' c', e = .returned (.tuple #[scr A' (ctL st sk hp rt l k).length c' (ctZ (ctE st sk hp rt l k) st) (ctZ (ctE st sk hp rt l k) sk) (ctZ (ctE st sk hp rt l k) hp) (ctZ (ctE st sk hp rt l k) rt), .int .i64 (ctE st sk hp rt l k)]) ∧ w'.ownsRow w.heap.size 3 1 (.slice A' (ctL st sk hp rt l k).length c') (ctL st sk hp rt l k).length ((ctL st sk hp rt l k).map vI) ∧ Below w.heap.size w w' := by
  have HL := Lib.hid hr.lenI
  have hB := ((Below.refl w.heap.size w).alloc (Nat.le_refl _) (.cells #[.slice A n c, .int .i64 st, .int .i64 sk, .int .i64 hp, .int .i64 rt] 31)).alloc (by simp) (.cells #[.slice none 0 0, .int .i64 0, .int .i64 0, .int .i64 0, .int .i64 0] 31)
  have hk := (Blk.new w 31 #[.slice A n c, .int .i64 st, .int .i64 sk, .int .i64 hp, .int .i64 rt]).alloc (.cells #[.slice none 0 0, .int .i64 0, .int .i64 0, .int .i64 0, .int .i64 0] 31)
  have hz := Blk.new (w.alloc (.cells #[.slice A n c, .int .i64 st, .int .i64 sk, .int .i64 hp, .int .i64 rt] 31)) 31 #[.slice none 0 0, .int .i64 0, .int .i64 0, .int .i64 0, .int .i64 0]
  rw [alloc_size] at hz
  have HR := Lib.hid (hr.below hB)
  clear hr
  cases hs : scB st sk hp rt l
  · have HE := Lib.hid (show scE st sk hp rt l = 8 from by simp [scE, hs])
    have HV := Lib.hid (show ctL st sk hp rt l k = [] ∧ ctE st sk hp rt l k = 8 from by constructor <;> simp [ctL, ctE, hs])
    clear hs
    go_enter Try.func16, Try.ntmps16
    go_wp2_with fail
    refine (recheck11_any A n c l st sk hp rt _ (HR.out.more hB.size) hn).mono ?_
    rintro e w1 ⟨rfl, b1⟩
    rw [HE.out]
    have hz1 := hz.below b1 hz.lt
    have hB1 := hB.trans (b1.mono hB.size)
    have hk1 := hk.below b1 hk.lt
    have z1_0 : w1.cell? ⟨w.heap.size + 1, 0, none⟩ = some (.slice none 0 0) := (hz1.cell 0).trans rfl
    have z1_1 : w1.cell? ⟨w.heap.size + 1, 1, none⟩ = some (.int .i64 0) := (hz1.cell 1).trans rfl
    have z1_2 : w1.cell? ⟨w.heap.size + 1, 2, none⟩ = some (.int .i64 0) := (hz1.cell 2).trans rfl
    have z1_3 : w1.cell? ⟨w.heap.size + 1, 3, none⟩ = some (.int .i64 0) := (hz1.cell 3).trans rfl
    have z1_4 : w1.cell? ⟨w.heap.size + 1, 4, none⟩ = some (.int .i64 0) := (hz1.cell 4).trans rfl
    have z1_f0 := hz1.frozen 0
    have z1_f1 := hz1.frozen 1
    have z1_f2 := hz1.frozen 2
    have z1_f3 := hz1.frozen 3
    have z1_f4 := hz1.frozen 4
    have k1_0 : w1.cell? ⟨w.heap.size, 0, none⟩ = some (.slice A n c) := (hk1.cell 0).trans rfl
    have k1_1 : w1.cell? ⟨w.heap.size, 1, none⟩ = some (.int .i64 st) := (hk1.cell 1).trans rfl
    have k1_2 : w1.cell? ⟨w.heap.size, 2, none⟩ = some (.int .i64 sk) := (hk1.cell 2).trans rfl
    have k1_3 : w1.cell? ⟨w.heap.size, 3, none⟩ = some (.int .i64 hp) := (hk1.cell 3).trans rfl
    have k1_4 : w1.cell? ⟨w.heap.size, 4, none⟩ = some (.int .i64 rt) := (hk1.cell 4).trans rfl
    have k1_f0 := hk1.frozen 0
    have k1_f1 := hk1.frozen 1
    have k1_f2 := hk1.frozen 2
    have k1_f3 := hk1.frozen 3
    have k1_f4 := hk1.frozen 4

    go_wp2_with fail
    refine ret_c1 rfl scrT rfl (by repeat (first | with_reducible exact hz1 | with_reducible (apply Blk.set_) | with_reducible (apply Blk.far; case hp => (simp <;> omega)) | with_reducible (apply Blk.alloc) | with_reducible (apply Blk.drew))) (by rfl) ?_
    exact ⟨none, 0, by rw [HV.out.1, HV.out.2]; rfl, by rw [HV.out.1]; exact World.ownsRow_nil _ _ _ _, (by have hs_ := hB1.size; repeat (first | with_reducible exact hB1 | with_reducible (refine Below.setCell ?_ (by simp <;> omega) _) | with_reducible (refine Below.alloc ?_ (by simp <;> omega) _) | with_reducible (refine Below.drew ?_)))⟩

  have HE := Lib.hid (show scE st sk hp rt l = 0 from by simp [scE, hs])
  have hn2 : n ≤ 2000 := by have := (sc_parts hs).2.2.2.2.1; rw [HL.out] at this; exact this
  by_cases g0 : k < 0
  · have d0 : decide (k < 0) = true := by simpa using g0
    have hi : inB k 0 (n : Int) = false := by rw [inB_false]; omega
    have HV := Lib.hid (show ctL st sk hp rt l k = [] ∧ ctE st sk hp rt l k = 2 from by constructor <;> simp [ctL, ctE, hs, HL.out, hi])
    clear hs
    go_enter Try.func16, Try.ntmps16
    go_wp2_with fail
    refine (recheck11_any A n c l st sk hp rt _ (HR.out.more hB.size) hn).mono ?_
    rintro e w1 ⟨rfl, b1⟩
    rw [HE.out]
    have hz1 := hz.below b1 hz.lt
    have hB1 := hB.trans (b1.mono hB.size)
    have hk1 := hk.below b1 hk.lt
    have z1_0 : w1.cell? ⟨w.heap.size + 1, 0, none⟩ = some (.slice none 0 0) := (hz1.cell 0).trans rfl
    have z1_1 : w1.cell? ⟨w.heap.size + 1, 1, none⟩ = some (.int .i64 0) := (hz1.cell 1).trans rfl
    have z1_2 : w1.cell? ⟨w.heap.size + 1, 2, none⟩ = some (.int .i64 0) := (hz1.cell 2).trans rfl
    have z1_3 : w1.cell? ⟨w.heap.size + 1, 3, none⟩ = some (.int .i64 0) := (hz1.cell 3).trans rfl
    have z1_4 : w1.cell? ⟨w.heap.size + 1, 4, none⟩ = some (.int .i64 0) := (hz1.cell 4).trans rfl
    have z1_f0 := hz1.frozen 0
    have z1_f1 := hz1.frozen 1
    have z1_f2 := hz1.frozen 2
    have z1_f3 := hz1.frozen 3
    have z1_f4 := hz1.frozen 4
    have k1_0 : w1.cell? ⟨w.heap.size, 0, none⟩ = some (.slice A n c) := (hk1.cell 0).trans rfl
    have k1_1 : w1.cell? ⟨w.heap.size, 1, none⟩ = some (.int .i64 st) := (hk1.cell 1).trans rfl
    have k1_2 : w1.cell? ⟨w.heap.size, 2, none⟩ = some (.int .i64 sk) := (hk1.cell 2).trans rfl
    have k1_3 : w1.cell? ⟨w.heap.size, 3, none⟩ = some (.int .i64 hp) := (hk1.cell 3).trans rfl
    have k1_4 : w1.cell? ⟨w.heap.size, 4, none⟩ = some (.int .i64 rt) := (hk1.cell 4).trans rfl
    have k1_f0 := hk1.frozen 0
    have k1_f1 := hk1.frozen 1
    have k1_f2 := hk1.frozen 2
    have k1_f3 := hk1.frozen 3
    have k1_f4 := hk1.frozen 4

    go_wp2_with fail
    refine ret_c1 rfl scrT rfl (by repeat (first | with_reducible exact hz1 | with_reducible (apply Blk.set_) | with_reducible (apply Blk.far; case hp => (simp <;> omega)) | with_reducible (apply Blk.alloc) | with_reducible (apply Blk.drew))) (by rfl) ?_
    exact ⟨none, 0, by rw [HV.out.1, HV.out.2]; rfl, by rw [HV.out.1]; exact World.ownsRow_nil _ _ _ _, (by have hs_ := hB1.size; repeat (first | with_reducible exact hB1 | with_reducible (refine Below.setCell ?_ (by simp <;> omega) _) | with_reducible (refine Below.alloc ?_ (by simp <;> omega) _) | with_reducible (refine Below.drew ?_)))⟩
  have d0 : decide (k < 0) = false := by simpa using g0
  by_cases g1 : (n : Int) < k
  · have d1 : decide ((n : Int) < k) = true := by simpa using g1
    have hi : inB k 0 (n : Int) = false := by rw [inB_false]; omega
    have HV := Lib.hid (show ctL st sk hp rt l k = [] ∧ ctE st sk hp rt l k = 2 from by constructor <;> simp [ctL, ctE, hs, HL.out, hi])
    clear hs
    go_enter Try.func16, Try.ntmps16
    go_wp2_with fail
    refine (recheck11_any A n c l st sk hp rt _ (HR.out.more hB.size) hn).mono ?_
    rintro e w1 ⟨rfl, b1⟩
    rw [HE.out]
    have hz1 := hz.below b1 hz.lt
    have hB1 := hB.trans (b1.mono hB.size)
    have hk1 := hk.below b1 hk.lt
    have z1_0 : w1.cell? ⟨w.heap.size + 1, 0, none⟩ = some (.slice none 0 0) := (hz1.cell 0).trans rfl
    have z1_1 : w1.cell? ⟨w.heap.size + 1, 1, none⟩ = some (.int .i64 0) := (hz1.cell 1).trans rfl
    have z1_2 : w1.cell? ⟨w.heap.size + 1, 2, none⟩ = some (.int .i64 0) := (hz1.cell 2).trans rfl
    have z1_3 : w1.cell? ⟨w.heap.size + 1, 3, none⟩ = some (.int .i64 0) := (hz1.cell 3).trans rfl
    have z1_4 : w1.cell? ⟨w.heap.size + 1, 4, none⟩ = some (.int .i64 0) := (hz1.cell 4).trans rfl
    have z1_f0 := hz1.frozen 0
    have z1_f1 := hz1.frozen 1
    have z1_f2 := hz1.frozen 2
    have z1_f3 := hz1.frozen 3
    have z1_f4 := hz1.frozen 4
    have k1_0 : w1.cell? ⟨w.heap.size, 0, none⟩ = some (.slice A n c) := (hk1.cell 0).trans rfl
    have k1_1 : w1.cell? ⟨w.heap.size, 1, none⟩ = some (.int .i64 st) := (hk1.cell 1).trans rfl
    have k1_2 : w1.cell? ⟨w.heap.size, 2, none⟩ = some (.int .i64 sk) := (hk1.cell 2).trans rfl
    have k1_3 : w1.cell? ⟨w.heap.size, 3, none⟩ = some (.int .i64 hp) := (hk1.cell 3).trans rfl
    have k1_4 : w1.cell? ⟨w.heap.size, 4, none⟩ = some (.int .i64 rt) := (hk1.cell 4).trans rfl
    have k1_f0 := hk1.frozen 0
    have k1_f1 := hk1.frozen 1
    have k1_f2 := hk1.frozen 2
    have k1_f3 := hk1.frozen 3
    have k1_f4 := hk1.frozen 4

    go_wp2_with fail
    refine ret_c1 rfl scrT rfl (by repeat (first | with_reducible exact hz1 | with_reducible (apply Blk.set_) | with_reducible (apply Blk.far; case hp => (simp <;> omega)) | with_reducible (apply Blk.alloc) | with_reducible (apply Blk.drew))) (by rfl) ?_
    exact ⟨none, 0, by rw [HV.out.1, HV.out.2]; rfl, by rw [HV.out.1]; exact World.ownsRow_nil _ _ _ _, (by have hs_ := hB1.size; repeat (first | with_reducible exact hB1 | with_reducible (refine Below.setCell ?_ (by simp <;> omega) _) | with_reducible (refine Below.alloc ?_ (by simp <;> omega) _) | with_reducible (refine Below.drew ?_)))⟩
  have d1 : decide ((n : Int) < k) = false := by simpa using g1
  have hk0 : 0 ≤ k := by omega
  have hkn : k ≤ (n : Int) := by omega
  have hi : inB k 0 (n : Int) = true := by rw [inB_true]; omega
  obtain ⟨q, rfl⟩ : ∃ q : Nat, k = (q : Int) := ⟨k.toNat, by omega⟩
  have he : ctE st sk hp rt l (q : Int) = 0 := by simp [ctE, hs, HL.out, hi]
  have HLT := Lib.hid (show (l.take q).length = q from by rw [List.length_take, HL.out]; omega)
  have HV := Lib.hid (show ctL st sk hp rt l (q : Int) = l.take q ∧ ctE st sk hp rt l (q : Int) = 0 from ⟨by unfold ctL; rw [if_pos he, Int.toNat_natCast], he⟩)
  have HI := Lib.hid hi
  have hqc : (q : Int) ≤ (c : Int) := by omega
  clear hs he hi
  go_enter Try.func16, Try.ntmps16
  go_wp2_with fail
  refine (recheck11_any A n c l st sk hp rt _ (HR.out.more hB.size) hn).mono ?_
  rintro e w1 ⟨rfl, b1⟩
  rw [HE.out]
  have hz1 := hz.below b1 hz.lt
  have hB1 := hB.trans (b1.mono hB.size)
  have hk1 := hk.below b1 hk.lt
  have z1_0 : w1.cell? ⟨w.heap.size + 1, 0, none⟩ = some (.slice none 0 0) := (hz1.cell 0).trans rfl
  have z1_1 : w1.cell? ⟨w.heap.size + 1, 1, none⟩ = some (.int .i64 0) := (hz1.cell 1).trans rfl
  have z1_2 : w1.cell? ⟨w.heap.size + 1, 2, none⟩ = some (.int .i64 0) := (hz1.cell 2).trans rfl
  have z1_3 : w1.cell? ⟨w.heap.size + 1, 3, none⟩ = some (.int .i64 0) := (hz1.cell 3).trans rfl
  have z1_4 : w1.cell? ⟨w.heap.size + 1, 4, none⟩ = some (.int .i64 0) := (hz1.cell 4).trans rfl
  have z1_f0 := hz1.frozen 0
  have z1_f1 := hz1.frozen 1
  have z1_f2 := hz1.frozen 2
  have z1_f3 := hz1.frozen 3
  have z1_f4 := hz1.frozen 4
  have k1_0 : w1.cell? ⟨w.heap.size, 0, none⟩ = some (.slice A n c) := (hk1.cell 0).trans rfl
  have k1_1 : w1.cell? ⟨w.heap.size, 1, none⟩ = some (.int .i64 st) := (hk1.cell 1).trans rfl
  have k1_2 : w1.cell? ⟨w.heap.size, 2, none⟩ = some (.int .i64 sk) := (hk1.cell 2).trans rfl
  have k1_3 : w1.cell? ⟨w.heap.size, 3, none⟩ = some (.int .i64 hp) := (hk1.cell 3).trans rfl
  have k1_4 : w1.cell? ⟨w.heap.size, 4, none⟩ = some (.int .i64 rt) := (hk1.cell 4).trans rfl
  have k1_f0 := hk1.frozen 0
  have k1_f1 := hk1.frozen 1
  have k1_f2 := hk1.frozen 2
  have k1_f3 := hk1.frozen 3
  have k1_f4 := hk1.frozen 4

  go_wp2_with fail
  have hz4 := hz1.drew
  have hk4 := hk1.drew
  have hB4 := hB1.drew
  have R4 : RdI w1.drew w.heap.size A n l := Reads.drew (HR.out.below (b1.mono hB.size))
  clear z1_0 z1_1 z1_2 z1_3 z1_4 z1_f0 z1_f1 z1_f2 z1_f3 z1_f4 k1_0 k1_1 k1_2 k1_3 k1_4 k1_f0 k1_f1 k1_f2 k1_f3 k1_f4
  refine bx_start (w1.heap.size) (w.heap.size + 1) (by kernel_rfl) (fun hQ => ?_)
  have hkl : w.heap.size < w1.heap.size := hk1.lt
  have hzl : w.heap.size + 1 < w1.heap.size := hz1.lt
  have hsz : w1.drew.heap.size = w1.heap.size := rfl
  have X0 : ∀ W, BelowX w1.heap.size (w.heap.size + 1) w1.drew W → W.cell? ⟨w.heap.size, 0, none⟩ = some (.slice A n c) := fun W h => ((hk4.belowx h hkl (by omega)).cell 0).trans rfl
  have X1 : ∀ W, BelowX w1.heap.size (w.heap.size + 1) w1.drew W → W.cell? ⟨w.heap.size, 1, none⟩ = some (.int .i64 st) := fun W h => ((hk4.belowx h hkl (by omega)).cell 1).trans rfl
  have X2 : ∀ W, BelowX w1.heap.size (w.heap.size + 1) w1.drew W → W.cell? ⟨w.heap.size, 2, none⟩ = some (.int .i64 sk) := fun W h => ((hk4.belowx h hkl (by omega)).cell 2).trans rfl
  have X3 : ∀ W, BelowX w1.heap.size (w.heap.size + 1) w1.drew W → W.cell? ⟨w.heap.size, 3, none⟩ = some (.int .i64 hp) := fun W h => ((hk4.belowx h hkl (by omega)).cell 3).trans rfl
  have X4 : ∀ W, BelowX w1.heap.size (w.heap.size + 1) w1.drew W → W.cell? ⟨w.heap.size, 4, none⟩ = some (.int .i64 rt) := fun W h => ((hk4.belowx h hkl (by omega)).cell 4).trans rfl
  have hx4 : w1.drew.heap.size = w1.heap.size := rfl
  generalize w1.drew = w4 at *
  have hw0 : IntKind.i64.wrap (q : Int) = (q : Int) := by rw [IntKind.wrap_i64]; omega
  have q0 : (0 : Int) ≤ (q : Int) := by omega
  refine bx_take (i := 0) (oi := ?oia0) (v := ?va0) ?hia0 (by kernel_rfl) (by kernel_rfl) (by kernel_rfl) hQ ?hwa0 ?hya0 ?resta0
  case hia0 => simp only [List.getElem?_toArray, List.getElem?_cons_zero]; rfl
  case hwa0 => rfl
  case hya0 => intro W hW; go_simp; with_reducible rfl
  simp only [Act.put, List.setIfInBounds_toArray, List.set_cons_zero, List.set_cons_succ]
  refine bx_take (i := 1) (oi := ?oia1) (v := ?va1) ?hia1 (by kernel_rfl) (by kernel_rfl) (by kernel_rfl) hQ ?hwa1 ?hya1 ?resta1
  case hia1 => simp only [List.getElem?_toArray, List.getElem?_cons_zero, List.getElem?_cons_succ]; rfl
  case hwa1 => rfl
  case hya1 => intro W hW; go_simp; with_reducible rfl
  simp only [Act.put, List.setIfInBounds_toArray, List.set_cons_zero, List.set_cons_succ]
  refine bx_take (i := 3) (oi := ?oia3) (v := ?va3) ?hia3 (by kernel_rfl) (by kernel_rfl) (by kernel_rfl) hQ ?hwa3 ?hya3 ?resta3
  case hia3 => simp only [List.getElem?_toArray, List.getElem?_cons_zero, List.getElem?_cons_succ]; rfl
  case hwa3 => rfl
  case hya3 => intro W hW; go_simp; with_reducible rfl
  simp only [Act.put, List.setIfInBounds_toArray, List.set_cons_zero, List.set_cons_succ]
  refine bx_take (i := 4) (oi := ?oia4) (v := ?va4) ?hia4 (by kernel_rfl) (by kernel_rfl) (by kernel_rfl) hQ ?hwa4 ?hya4 ?resta4
  case hia4 => simp only [List.getElem?_toArray, List.getElem?_cons_zero, List.getElem?_cons_succ]; rfl
  case hwa4 => rfl
  case hya4 => intro W hW; go_simp; with_reducible rfl
  simp only [Act.put, List.setIfInBounds_toArray, List.set_cons_zero, List.set_cons_succ]
  refine bx_take (i := 5) (oi := ?oia5) (v := ?va5) ?hia5 (by kernel_rfl) (by kernel_rfl) (by kernel_rfl) hQ ?hwa5 ?hya5 ?resta5
  case hia5 => simp only [List.getElem?_toArray, List.getElem?_cons_zero, List.getElem?_cons_succ]; rfl
  case hwa5 => rfl
  case hya5 => intro W hW; go_simp; with_reducible rfl
  simp only [Act.put, List.setIfInBounds_toArray, List.set_cons_zero, List.set_cons_succ]
  refine bx_take (i := 6) (oi := ?oia6) (v := ?va6) ?hia6 (by kernel_rfl) (by kernel_rfl) (by kernel_rfl) hQ ?hwa6 ?hya6 ?resta6
  case hia6 => simp only [List.getElem?_toArray, List.getElem?_cons_zero, List.getElem?_cons_succ]; rfl
  case hwa6 => rfl
  case hya6 => intro W hW; go_simp; with_reducible rfl
  simp only [Act.put, List.setIfInBounds_toArray, List.set_cons_zero, List.set_cons_succ]
  refine bx_step (i := 2) (oi := ?oia2) (by kernel_rfl) ?hia2 ?hwa2 (fun K hK => ?_)
  case hia2 => simp only [List.getElem?_toArray, List.getElem?_cons_zero, List.getElem?_cons_succ]; rfl
  case hwa2 => rfl
  go_simp
  have b5 := Ext.al w4 (.cells #[] 3); have o5 := own_empty_at hx4 (Nat.le_refl w1.heap.size) 3 1; have X5 := BelowX.of (Below.mono b5 (Nat.le_of_eq hx4.symm)) (w.heap.size + 1); have R5 := Reads.first ((R4.below (Below.mono b5 hB4.size)).more hB4.size) (show q ≤ n by omega); have hz5 := hz4.below b5 hz4.lt; have hB5 := hB4.trans (Below.mono b5 hB4.size); have Y0 := fun W (h : BelowX w1.heap.size (w.heap.size + 1) _ W) => X0 W (X5.trans h); refine hK _ _ X5 ?_
  try simp only [Act.put, List.setIfInBounds_toArray, List.set_cons_zero, List.set_cons_succ]
  refine bx_step (i := 7) (oi := ?oia7) (by kernel_rfl) ?hia7 ?hwa7 (fun K hK => ?_)
  case hia7 => simp only [List.getElem?_toArray, List.getElem?_cons_zero, List.getElem?_cons_succ]; rfl
  case hwa7 => rfl
  (refine wp_app (.tmp 22) (.tmp 26) _ (by rfl) slI w1.heap.size _ 0 [] (by rfl) o5 _ A q c ((l.map vI).take (q * 1)) (by rfl) R5 (fun u hu => vI_one l u (List.mem_of_mem_take hu)) (by omega) (by rw [alloc_size]; omega) ?_; intro A6 c6 w6 o6 hg6 b6 hc6; have hz6 := hz5.below b6 hzl; have hB6 := hB5.trans (b6.mono (Nat.le_of_lt hkl)); have z6_0 : w6.cell? ⟨w.heap.size + 1, 0, none⟩ = some (.slice none 0 0) := (hz6.cell 0).trans rfl; have z6_1 : w6.cell? ⟨w.heap.size + 1, 1, none⟩ = some (.int .i64 0) := (hz6.cell 1).trans rfl; have z6_2 : w6.cell? ⟨w.heap.size + 1, 2, none⟩ = some (.int .i64 0) := (hz6.cell 2).trans rfl; have z6_3 : w6.cell? ⟨w.heap.size + 1, 3, none⟩ = some (.int .i64 0) := (hz6.cell 3).trans rfl; have z6_4 : w6.cell? ⟨w.heap.size + 1, 4, none⟩ = some (.int .i64 0) := (hz6.cell 4).trans rfl; have z6_f0 := hz6.frozen 0; have z6_f1 := hz6.frozen 1; have z6_f2 := hz6.frozen 2; have z6_f3 := hz6.frozen 3; have z6_f4 := hz6.frozen 4; refine hK _ _ (BelowX.of b6 _) ?_)
  try simp only [Act.put, List.setIfInBounds_toArray, List.set_cons_zero, List.set_cons_succ]
  refine bx_take (i := 8) (oi := ?oia8) (v := ?va8) ?hia8 (by kernel_rfl) (by kernel_rfl) (by kernel_rfl) hQ ?hwa8 ?hya8 ?resta8
  case hia8 => simp only [List.getElem?_toArray, List.getElem?_cons_zero, List.getElem?_cons_succ]; rfl
  case hwa8 => rfl
  case hya8 => intro W hW; go_simp; with_reducible rfl
  simp only [Act.put, List.setIfInBounds_toArray, List.set_cons_zero, List.set_cons_succ]
  refine bx_step (i := 9) (oi := ?oia9) (by kernel_rfl) ?hia9 ?hwa9 (fun K hK => ?_)
  case hia9 => simp only [List.getElem?_toArray, List.getElem?_cons_zero, List.getElem?_cons_succ]; rfl
  case hwa9 => rfl
  go_simp
  refine hK _ _ (by repeat (first | exact BelowX.refl _ _ _ | apply BelowX.set_)) ?_
  try simp only [Act.put, List.setIfInBounds_toArray, List.set_cons_zero, List.set_cons_succ]
  refine bx_take (i := 10) (oi := ?oia10) (v := ?va10) ?hia10 (by kernel_rfl) (by kernel_rfl) (by kernel_rfl) hQ ?hwa10 ?hya10 ?resta10
  case hia10 => simp only [List.getElem?_toArray, List.getElem?_cons_zero, List.getElem?_cons_succ]; rfl
  case hwa10 => rfl
  case hya10 => intro W hW; go_simp; with_reducible rfl
  simp only [Act.put, List.setIfInBounds_toArray, List.set_cons_zero, List.set_cons_succ]
  refine wpAnyH_done (by kernel_rfl) ?_ _
  simp only [NoP]
  rw [Nat.zero_add, Nat.mul_one, List.nil_append, ← List.map_take] at o6
  go_wp2_with fail
  refine ret_c1 rfl scrT rfl (by repeat (first | with_reducible exact hz6 | with_reducible (apply Blk.set_) | with_reducible (apply Blk.far; case hp => (simp <;> omega)) | with_reducible (apply Blk.alloc) | with_reducible (apply Blk.drew))) (by rfl) ?_
  exact ⟨A6, c6, by rw [HV.out.1, HV.out.2, HLT.out]; rfl, by rw [HV.out.1, HLT.out]; exact own11' o6 (Nat.le_of_lt hkl) hzl, (by have hs_ := hB6.size; repeat (first | with_reducible exact hB6 | with_reducible (refine Below.setCell ?_ (by simp <;> omega) _) | with_reducible (refine Below.alloc ?_ (by simp <;> omega) _) | with_reducible (refine Below.drew ?_)))⟩

end Go.Proofs.Ytgobebiagpejkaa
