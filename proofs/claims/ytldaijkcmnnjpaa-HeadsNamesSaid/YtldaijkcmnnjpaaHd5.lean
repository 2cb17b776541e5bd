/- Contracts and laws of a chapter that its statement of names leans on. Each states its conditions. -/
import Derived.Test.YtldaijkcmnnjpaaHd4
namespace Go.Proofs.Ytldaijkcmnnjpaa
open Go.RowKit Wire
set_option linter.unusedVariables false
/-- A goroutine as a value. -/
abbrev rtV (st co sp df pn : Nat) (ky : Int) : Value := .agg #[.int .u8 (st : Int), .int .u64 (co : Int), .int .u64 (sp : Int), .int .u64 (df : Int), .int .u64 (pn : Int), .int .i64 ky]
/-- Whether a goroutine is one of heads. -/
def hdB (g st co sp df pn : Nat) (ky : Int) : Bool :=
  decide (1 ≤ st ∧ st ≤ 3) && (decide (16777216 * (g + 1) ≤ sp ∧ sp ≤ 16777216 * (g + 1) + 4096) && (decide (sp % 8 = 0 ∧ df % 8 = 0 ∧ pn % 8 = 0) &&
    (if st = 3 then decide (sp = 16777216 * (g + 1) ∧ co = 0 ∧ df = 0 ∧ pn = 0 ∧ ky = 0) else decide (ky = 0 ∨ st = 2))))
theorem or_mod8 (a b : Nat) : (a ||| b) % 8 = 0 ↔ a % 8 = 0 ∧ b % 8 = 0 := by
  rw [show (8 : Nat) = 2 ^ 3 from rfl, ← Nat.and_two_pow_sub_one_eq_mod, Nat.and_or_distrib_right, Nat.and_two_pow_sub_one_eq_mod, Nat.and_two_pow_sub_one_eq_mod]
  constructor
  · intro h
    exact ⟨Nat.eq_zero_of_le_zero (h ▸ Nat.left_le_or), Nat.eq_zero_of_le_zero (h ▸ Nat.right_le_or)⟩
  · rintro ⟨h1, h2⟩
    rw [h1, h2]; rfl
theorem bits_or_u64 {a b : Nat} (ha : a < 18446744073709551616) (hb : b < 18446744073709551616) : bits .or .u64 (a : Int) (b : Int) = ((a ||| b : Nat) : Int) ∧ (a ||| b) < 18446744073709551616 :=
  ⟨u64_or_nat a b ha hb, Nat.or_lt_two_pow (n := 64) ha hb⟩
set_option maxRecDepth 100000 in
set_option maxHeartbeats 3200000 in
theorem isHead_any (g st co sp df pn : Nat) (ky : Int) (w : World) (hg : g ≤ 1000000) (hst : st < 256) (hsp : sp < 18446744073709551616) (hdf : df < 18446744073709551616) (hpn : pn < 18446744073709551616) (hco : co < 18446744073709551616) :
    Calls Try.prog 107 #[.int .i64 (g : Int), rtV st co sp df pn ky] w fun e w' => e = .returned (.bool (hdB g st co sp df pn ky)) ∧ Below w.heap.size w w' := by
  obtain ⟨bs, hbs⟩ : ∃ bs, 16777216 * (g + 1) = bs := ⟨_, rfl⟩
  have HBC := Lib.hid (fun W => base27_any g W hg)
  rw [hbs] at HBC
  have hbs2 : bs ≤ 16777216000000000 := by omega
  obtain ⟨q, hq⟩ : ∃ q, IntKind.u64.wrap ((sp : Int) - (bs : Int)) = q := ⟨_, rfl⟩
  have ho1 := bits_or_u64 hsp hdf
  have ho2 := bits_or_u64 ho1.2 hpn
  obtain ⟨m, hm⟩ : ∃ m, (sp ||| df) ||| pn = m := ⟨_, rfl⟩
  have hm8 : m % 8 = 0 ↔ sp % 8 = 0 ∧ df % 8 = 0 ∧ pn % 8 = 0 := by rw [← hm, or_mod8, or_mod8, and_assoc]
  obtain ⟨m1, hm1⟩ : ∃ m1, sp ||| df = m1 := ⟨_, rfl⟩
  rw [hm1] at ho1 ho2 hm
  rw [hm] at ho2
  have ho3 := ho1.1
  have ho4 := ho2.1
  have HM8 := Lib.hid hm8
  clear ho1 ho2 hm hm1 hm8
  by_cases h1 : st = 0
  · have d1 : decide ((st : Int) < 1) = true := by simp; omega
    have d2 : (st : Int) < 1 := by omega
    have HE := Lib.hid (show hdB g st co sp df pn ky = false from by unfold hdB; rw [← Bool.not_eq_true]; simp only [Bool.and_eq_true, decide_eq_true_eq]; rw [hbs]; omega)
    clear h1
    have hB : Below w.heap.size w (w.alloc (.cells #[.int .u8 (st : Int), .int .u64 (co : Int), .int .u64 (sp : Int), .int .u64 (df : Int), .int .u64 (pn : Int), .int .i64 ky] 94)) := (Below.alloc (Below.refl w.heap.size w) (by simp <;> omega) (.cells #[.int .u8 (st : Int), .int .u64 (co : Int), .int .u64 (sp : Int), .int .u64 (df : Int), .int .u64 (pn : Int), .int .i64 ky] 94))
    have hk := Blk.new w 94 #[.int .u8 (st : Int), .int .u64 (co : Int), .int .u64 (sp : Int), .int .u64 (df : Int), .int .u64 (pn : Int), .int .i64 ky]
    go_enter Try.func107, Try.ntmps107
    have z1 : (w.alloc (.cells #[.int .u8 (st : Int), .int .u64 (co : Int), .int .u64 (sp : Int), .int .u64 (df : Int), .int .u64 (pn : Int), .int .i64 ky] 94)).cell? ⟨w.heap.size, 0, none⟩ = some (.int .u8 (st : Int)) := (hk.cell 0).trans rfl
    have z2 := hk.frozen 0
    have z3 : (w.alloc (.cells #[.int .u8 (st : Int), .int .u64 (co : Int), .int .u64 (sp : Int), .int .u64 (df : Int), .int .u64 (pn : Int), .int .i64 ky] 94)).cell? ⟨w.heap.size, 1, none⟩ = some (.int .u64 (co : Int)) := (hk.cell 1).trans rfl
    have z4 := hk.frozen 1
    have z5 : (w.alloc (.cells #[.int .u8 (st : Int), .int .u64 (co : Int), .int .u64 (sp : Int), .int .u64 (df : Int), .int .u64 (pn : Int), .int .i64 ky] 94)).cell? ⟨w.heap.size, 2, none⟩ = some (.int .u64 (sp : Int)) := (hk.cell 2).trans rfl
    have z6 := hk.frozen 2
    have z7 : (w.alloc (.cells #[.int .u8 (st : Int), .int .u64 (co : Int), .int .u64 (sp : Int), .int .u64 (df : Int), .int .u64 (pn : Int), .int .i64 ky] 94)).cell? ⟨w.heap.size, 3, none⟩ = some (.int .u64 (df : Int)) := (hk.cell 3).trans rfl
    have z8 := hk.frozen 3
    have z9 : (w.alloc (.cells #[.int .u8 (st : Int), .int .u64 (co : Int), .int .u64 (sp : Int), .int .u64 (df : Int), .int .u64 (pn : Int), .int .i64 ky] 94)).cell? ⟨w.heap.size, 4, none⟩ = some (.int .u64 (pn : Int)) := (hk.cell 4).trans rfl
    have z10 := hk.frozen 4
    have z11 : (w.alloc (.cells #[.int .u8 (st : Int), .int .u64 (co : Int), .int .u64 (sp : Int), .int .u64 (df : Int), .int .u64 (pn : Int), .int .i64 ky] 94)).cell? ⟨w.heap.size, 5, none⟩ = some (.int .i64 ky) := (hk.cell 5).trans rfl
    have z12 := hk.frozen 5
    have z13 := hk.lt
    go_wp2_with fail
    clear z1 z2 z3 z4 z5 z6 z7 z8 z9 z10 z11 z12 z13
    refine nop_wp (ext_start (by kernel_rfl) calm_nop (fun hQ => ?_))
    replace hk : Blk (w.alloc (.cells #[.int .u8 (st : Int), .int .u64 (co : Int), .int .u64 (sp : Int), .int .u64 (df : Int), .int .u64 (pn : Int), .int .i64 ky] 94)).drew w.heap.size 94 #[.int .u8 (st : Int), .int .u64 (co : Int), .int .u64 (sp : Int), .int .u64 (df : Int), .int .u64 (pn : Int), .int .i64 ky] := (by repeat (first | with_reducible exact hk | with_reducible (apply Blk.set_) | with_reducible (apply Blk.far; case hp => (simp <;> omega)) | with_reducible (apply Blk.alloc) | with_reducible (apply Blk.drew)))
    replace hB : Below w.heap.size w (w.alloc (.cells #[.int .u8 (st : Int), .int .u64 (co : Int), .int .u64 (sp : Int), .int .u64 (df : Int), .int .u64 (pn : Int), .int .i64 ky] 94)).drew := Below.drew (by have hs_ := hB.size; repeat (first | with_reducible exact hB | with_reducible (refine Below.setCell ?_ (by simp <;> omega) _) | with_reducible (refine Below.alloc ?_ (by first | exact hs_ | (simp <;> omega)) _) | with_reducible (refine Below.drew ?_)))
    generalize (w.alloc (.cells #[.int .u8 (st : Int), .int .u64 (co : Int), .int .u64 (sp : Int), .int .u64 (df : Int), .int .u64 (pn : Int), .int .i64 ky] 94)).drew = x1 at *
    have X_hk_0 : ∀ W, Ext x1 W → W.cell? ⟨w.heap.size, 0, none⟩ = some (.int .u8 (st : Int)) := fun W h_ => ((hk.below h_ hk.lt).cell 0).trans rfl
    have X_hk_1 : ∀ W, Ext x1 W → W.cell? ⟨w.heap.size, 1, none⟩ = some (.int .u64 (co : Int)) := fun W h_ => ((hk.below h_ hk.lt).cell 1).trans rfl
    have X_hk_2 : ∀ W, Ext x1 W → W.cell? ⟨w.heap.size, 2, none⟩ = some (.int .u64 (sp : Int)) := fun W h_ => ((hk.below h_ hk.lt).cell 2).trans rfl
    have X_hk_3 : ∀ W, Ext x1 W → W.cell? ⟨w.heap.size, 3, none⟩ = some (.int .u64 (df : Int)) := fun W h_ => ((hk.below h_ hk.lt).cell 3).trans rfl
    have X_hk_4 : ∀ W, Ext x1 W → W.cell? ⟨w.heap.size, 4, none⟩ = some (.int .u64 (pn : Int)) := fun W h_ => ((hk.below h_ hk.lt).cell 4).trans rfl
    have X_hk_5 : ∀ W, Ext x1 W → W.cell? ⟨w.heap.size, 5, none⟩ = some (.int .i64 ky) := fun W h_ => ((hk.below h_ hk.lt).cell 5).trans rfl
    refine ext_take (i := 0) (oi := ?oil1a0) (v := ?vl1a0) ?hil1a0 (by kernel_rfl) (by kernel_rfl) (by kernel_rfl) hQ ?hwl1a0 ?hyl1a0 ?restl1a0
    case hil1a0 => simp only [List.getElem?_toArray, List.getElem?_cons_zero]; rfl
    case hwl1a0 => rfl
    case hyl1a0 => intro W hW; go_simp; with_reducible rfl
    simp only [Act.put, List.setIfInBounds_toArray, List.set_cons_zero, List.set_cons_succ]
    refine ext_take (i := 1) (oi := ?oil1a1) (v := ?vl1a1) ?hil1a1 (by kernel_rfl) (by kernel_rfl) (by kernel_rfl) hQ ?hwl1a1 ?hyl1a1 ?restl1a1
    case hil1a1 => simp only [List.getElem?_toArray, List.getElem?_cons_zero, List.getElem?_cons_succ]; rfl
    case hwl1a1 => rfl
    case hyl1a1 => intro W hW; go_simp; with_reducible rfl
    simp only [Act.put, List.setIfInBounds_toArray, List.set_cons_zero, List.set_cons_succ]
    refine ext_take (i := 2) (oi := ?oil1a2) (v := ?vl1a2) ?hil1a2 (by kernel_rfl) (by kernel_rfl) (by kernel_rfl) hQ ?hwl1a2 ?hyl1a2 ?restl1a2
    case hil1a2 => simp only [List.getElem?_toArray, List.getElem?_cons_zero, List.getElem?_cons_succ]; rfl
    case hwl1a2 => rfl
    case hyl1a2 => intro W hW; go_simp; with_reducible rfl
    simp only [Act.put, List.setIfInBounds_toArray, List.set_cons_zero, List.set_cons_succ]
    refine ext_step (i := 3) (oi := ?oil1a3) (by kernel_rfl) ?hil1a3 ?hwl1a3 (fun K hK => ?_)
    case hil1a3 => simp only [List.getElem?_toArray, List.getElem?_cons_zero, List.getElem?_cons_succ]; rfl
    case hwl1a3 => rfl
    go_simp
    refine (HBC.out _).mono ?_; rintro e wq ⟨rfl, rfl⟩; refine hK _ _ (Ext.refl _) ?_
    try simp only [Act.put, List.setIfInBounds_toArray, List.set_cons_zero, List.set_cons_succ]
    refine ext_take (i := 4) (oi := ?oil1a4) (v := ?vl1a4) ?hil1a4 (by kernel_rfl) (by kernel_rfl) (by kernel_rfl) hQ ?hwl1a4 ?hyl1a4 ?restl1a4
    case hil1a4 => simp only [List.getElem?_toArray, List.getElem?_cons_zero, List.getElem?_cons_succ]; rfl
    case hwl1a4 => rfl
    case hyl1a4 => intro W hW; go_simp; with_reducible rfl
    simp only [Act.put, List.setIfInBounds_toArray, List.set_cons_zero, List.set_cons_succ]
    refine ext_take (i := 5) (oi := ?oil1a5) (v := ?vl1a5) ?hil1a5 (by kernel_rfl) (by kernel_rfl) (by kernel_rfl) hQ ?hwl1a5 ?hyl1a5 ?restl1a5
    case hil1a5 => simp only [List.getElem?_toArray, List.getElem?_cons_zero, List.getElem?_cons_succ]; rfl
    case hwl1a5 => rfl
    case hyl1a5 => intro W hW; go_simp; with_reducible rfl
    simp only [Act.put, List.setIfInBounds_toArray, List.set_cons_zero, List.set_cons_succ]
    refine wpAnyH_done (by kernel_rfl) ?_ _
    simp only [NoP]
    clear X_hk_0 X_hk_1 X_hk_2 X_hk_3 X_hk_4 X_hk_5
    have z14 : x1.cell? ⟨w.heap.size, 0, none⟩ = some (.int .u8 (st : Int)) := (hk.cell 0).trans rfl
    have z15 := hk.frozen 0
    have z16 : x1.cell? ⟨w.heap.size, 1, none⟩ = some (.int .u64 (co : Int)) := (hk.cell 1).trans rfl
    have z17 := hk.frozen 1
    have z18 : x1.cell? ⟨w.heap.size, 2, none⟩ = some (.int .u64 (sp : Int)) := (hk.cell 2).trans rfl
    have z19 := hk.frozen 2
    have z20 : x1.cell? ⟨w.heap.size, 3, none⟩ = some (.int .u64 (df : Int)) := (hk.cell 3).trans rfl
    have z21 := hk.frozen 3
    have z22 : x1.cell? ⟨w.heap.size, 4, none⟩ = some (.int .u64 (pn : Int)) := (hk.cell 4).trans rfl
    have z23 := hk.frozen 4
    have z24 : x1.cell? ⟨w.heap.size, 5, none⟩ = some (.int .i64 ky) := (hk.cell 5).trans rfl
    have z25 := hk.frozen 5
    have z26 := hk.lt
    go_wp2_with fail
    go_ret
    exact ⟨by rw [HE.out]; rfl, (by have hs_ := hB.size; repeat (first | with_reducible exact hB | with_reducible (refine Below.setCell ?_ (by simp <;> omega) _) | with_reducible (refine Below.alloc ?_ (by first | exact hs_ | (simp <;> omega)) _) | with_reducible (refine Below.drew ?_)))⟩
  have d1 : decide ((st : Int) < 1) = false := by simp; omega
  by_cases h2 : 3 < st
  · have d2 : decide ((st : Int) > 3) = true := by simp; omega
    have d3 : (3 : Int) < (st : Int) := by omega
    have HE := Lib.hid (show hdB g st co sp df pn ky = false from by unfold hdB; rw [← Bool.not_eq_true]; simp only [Bool.and_eq_true, decide_eq_true_eq]; rw [hbs]; omega)
    clear h2
    have hB : Below w.heap.size w (w.alloc (.cells #[.int .u8 (st : Int), .int .u64 (co : Int), .int .u64 (sp : Int), .int .u64 (df : Int), .int .u64 (pn : Int), .int .i64 ky] 94)) := (Below.alloc (Below.refl w.heap.size w) (by simp <;> omega) (.cells #[.int .u8 (st : Int), .int .u64 (co : Int), .int .u64 (sp : Int), .int .u64 (df : Int), .int .u64 (pn : Int), .int .i64 ky] 94))
    have hk := Blk.new w 94 #[.int .u8 (st : Int), .int .u64 (co : Int), .int .u64 (sp : Int), .int .u64 (df : Int), .int .u64 (pn : Int), .int .i64 ky]
    go_enter Try.func107, Try.ntmps107
    have z1 : (w.alloc (.cells #[.int .u8 (st : Int), .int .u64 (co : Int), .int .u64 (sp : Int), .int .u64 (df : Int), .int .u64 (pn : Int), .int .i64 ky] 94)).cell? ⟨w.heap.size, 0, none⟩ = some (.int .u8 (st : Int)) := (hk.cell 0).trans rfl
    have z2 := hk.frozen 0
    have z3 : (w.alloc (.cells #[.int .u8 (st : Int), .int .u64 (co : Int), .int .u64 (sp : Int), .int .u64 (df : Int), .int .u64 (pn : Int), .int .i64 ky] 94)).cell? ⟨w.heap.size, 1, none⟩ = some (.int .u64 (co : Int)) := (hk.cell 1).trans rfl
    have z4 := hk.frozen 1
    have z5 : (w.alloc (.cells #[.int .u8 (st : Int), .int .u64 (co : Int), .int .u64 (sp : Int), .int .u64 (df : Int), .int .u64 (pn : Int), .int .i64 ky] 94)).cell? ⟨w.heap.size, 2, none⟩ = some (.int .u64 (sp : Int)) := (hk.cell 2).trans rfl
    have z6 := hk.frozen 2
    have z7 : (w.alloc (.cells #[.int .u8 (st : Int), .int .u64 (co : Int), .int .u64 (sp : Int), .int .u64 (df : Int), .int .u64 (pn : Int), .int .i64 ky] 94)).cell? ⟨w.heap.size, 3, none⟩ = some (.int .u64 (df : Int)) := (hk.cell 3).trans rfl
    have z8 := hk.frozen 3
    have z9 : (w.alloc (.cells #[.int .u8 (st : Int), .int .u64 (co : Int), .int .u64 (sp : Int), .int .u64 (df : Int), .int .u64 (pn : Int), .int .i64 ky] 94)).cell? ⟨w.heap.size, 4, none⟩ = some (.int .u64 (pn : Int)) := (hk.cell 4).trans rfl
    have z10 := hk.frozen 4
    have z11 : (w.alloc (.cells #[.int .u8 (st : Int), .int .u64 (co : Int), .int .u64 (sp : Int), .int .u64 (df : Int), .int .u64 (pn : Int), .int .i64 ky] 94)).cell? ⟨w.heap.size, 5, none⟩ = some (.int .i64 ky) := (hk.cell 5).trans rfl
    have z12 := hk.frozen 5
    have z13 := hk.lt
    go_wp2_with fail
    clear z1 z2 z3 z4 z5 z6 z7 z8 z9 z10 z11 z12 z13
    refine nop_wp (ext_start (by kernel_rfl) calm_nop (fun hQ => ?_))
    replace hk : Blk (w.alloc (.cells #[.int .u8 (st : Int), .int .u64 (co : Int), .int .u64 (sp : Int), .int .u64 (df : Int), .int .u64 (pn : Int), .int .i64 ky] 94)).drew w.heap.size 94 #[.int .u8 (st : Int), .int .u64 (co : Int), .int .u64 (sp : Int), .int .u64 (df : Int), .int .u64 (pn : Int), .int .i64 ky] := (by repeat (first | with_reducible exact hk | with_reducible (apply Blk.set_) | with_reducible (apply Blk.far; case hp => (simp <;> omega)) | with_reducible (apply Blk.alloc) | with_reducible (apply Blk.drew)))
    replace hB : Below w.heap.size w (w.alloc (.cells #[.int .u8 (st : Int), .int .u64 (co : Int), .int .u64 (sp : Int), .int .u64 (df : Int), .int .u64 (pn : Int), .int .i64 ky] 94)).drew := Below.drew (by have hs_ := hB.size; repeat (first | with_reducible exact hB | with_reducible (refine Below.setCell ?_ (by simp <;> omega) _) | with_reducible (refine Below.alloc ?_ (by first | exact hs_ | (simp <;> omega)) _) | with_reducible (refine Below.drew ?_)))
    generalize (w.alloc (.cells #[.int .u8 (st : Int), .int .u64 (co : Int), .int .u64 (sp : Int), .int .u64 (df : Int), .int .u64 (pn : Int), .int .i64 ky] 94)).drew = x1 at *
    have X_hk_0 : ∀ W, Ext x1 W → W.cell? ⟨w.heap.size, 0, none⟩ = some (.int .u8 (st : Int)) := fun W h_ => ((hk.below h_ hk.lt).cell 0).trans rfl
    have X_hk_1 : ∀ W, Ext x1 W → W.cell? ⟨w.heap.size, 1, none⟩ = some (.int .u64 (co : Int)) := fun W h_ => ((hk.below h_ hk.lt).cell 1).trans rfl
    have X_hk_2 : ∀ W, Ext x1 W → W.cell? ⟨w.heap.size, 2, none⟩ = some (.int .u64 (sp : Int)) := fun W h_ => ((hk.below h_ hk.lt).cell 2).trans rfl
    have X_hk_3 : ∀ W, Ext x1 W → W.cell? ⟨w.heap.size, 3, none⟩ = some (.int .u64 (df : Int)) := fun W h_ => ((hk.below h_ hk.lt).cell 3).trans rfl
    have X_hk_4 : ∀ W, Ext x1 W → W.cell? ⟨w.heap.size, 4, none⟩ = some (.int .u64 (pn : Int)) := fun W h_ => ((hk.below h_ hk.lt).cell 4).trans rfl
    have X_hk_5 : ∀ W, Ext x1 W → W.cell? ⟨w.heap.size, 5, none⟩ = some (.int .i64 ky) := fun W h_ => ((hk.below h_ hk.lt).cell 5).trans rfl
    refine ext_take (i := 0) (oi := ?oil2a0) (v := ?vl2a0) ?hil2a0 (by kernel_rfl) (by kernel_rfl) (by kernel_rfl) hQ ?hwl2a0 ?hyl2a0 ?restl2a0
    case hil2a0 => simp only [List.getElem?_toArray, List.getElem?_cons_zero]; rfl
    case hwl2a0 => rfl
    case hyl2a0 => intro W hW; go_simp; with_reducible rfl
    simp only [Act.put, List.setIfInBounds_toArray, List.set_cons_zero, List.set_cons_succ]
    refine ext_take (i := 1) (oi := ?oil2a1) (v := ?vl2a1) ?hil2a1 (by kernel_rfl) (by kernel_rfl) (by kernel_rfl) hQ ?hwl2a1 ?hyl2a1 ?restl2a1
    case hil2a1 => simp only [List.getElem?_toArray, List.getElem?_cons_zero, List.getElem?_cons_succ]; rfl
    case hwl2a1 => rfl
    case hyl2a1 => intro W hW; go_simp; with_reducible rfl
    simp only [Act.put, List.setIfInBounds_toArray, List.set_cons_zero, List.set_cons_succ]
    refine ext_take (i := 2) (oi := ?oil2a2) (v := ?vl2a2) ?hil2a2 (by kernel_rfl) (by kernel_rfl) (by kernel_rfl) hQ ?hwl2a2 ?hyl2a2 ?restl2a2
    case hil2a2 => simp only [List.getElem?_toArray, List.getElem?_cons_zero, List.getElem?_cons_succ]; rfl
    case hwl2a2 => rfl
    case hyl2a2 => intro W hW; go_simp; with_reducible rfl
    simp only [Act.put, List.setIfInBounds_toArray, List.set_cons_zero, List.set_cons_succ]
    refine ext_step (i := 3) (oi := ?oil2a3) (by kernel_rfl) ?hil2a3 ?hwl2a3 (fun K hK => ?_)
    case hil2a3 => simp only [List.getElem?_toArray, List.getElem?_cons_zero, List.getElem?_cons_succ]; rfl
    case hwl2a3 => rfl
    go_simp
    refine (HBC.out _).mono ?_; rintro e wq ⟨rfl, rfl⟩; refine hK _ _ (Ext.refl _) ?_
    try simp only [Act.put, List.setIfInBounds_toArray, List.set_cons_zero, List.set_cons_succ]
    refine ext_take (i := 4) (oi := ?oil2a4) (v := ?vl2a4) ?hil2a4 (by kernel_rfl) (by kernel_rfl) (by kernel_rfl) hQ ?hwl2a4 ?hyl2a4 ?restl2a4
    case hil2a4 => simp only [List.getElem?_toArray, List.getElem?_cons_zero, List.getElem?_cons_succ]; rfl
    case hwl2a4 => rfl
    case hyl2a4 => intro W hW; go_simp; with_reducible rfl
    simp only [Act.put, List.setIfInBounds_toArray, List.set_cons_zero, List.set_cons_succ]
    refine ext_take (i := 5) (oi := ?oil2a5) (v := ?vl2a5) ?hil2a5 (by kernel_rfl) (by kernel_rfl) (by kernel_rfl) hQ ?hwl2a5 ?hyl2a5 ?restl2a5
    case hil2a5 => simp only [List.getElem?_toArray, List.getElem?_cons_zero, List.getElem?_cons_succ]; rfl
    case hwl2a5 => rfl
    case hyl2a5 => intro W hW; go_simp; with_reducible rfl
    simp only [Act.put, List.setIfInBounds_toArray, List.set_cons_zero, List.set_cons_succ]
    refine wpAnyH_done (by kernel_rfl) ?_ _
    simp only [NoP]
    clear X_hk_0 X_hk_1 X_hk_2 X_hk_3 X_hk_4 X_hk_5
    have z14 : x1.cell? ⟨w.heap.size, 0, none⟩ = some (.int .u8 (st : Int)) := (hk.cell 0).trans rfl
    have z15 := hk.frozen 0
    have z16 : x1.cell? ⟨w.heap.size, 1, none⟩ = some (.int .u64 (co : Int)) := (hk.cell 1).trans rfl
    have z17 := hk.frozen 1
    have z18 : x1.cell? ⟨w.heap.size, 2, none⟩ = some (.int .u64 (sp : Int)) := (hk.cell 2).trans rfl
    have z19 := hk.frozen 2
    have z20 : x1.cell? ⟨w.heap.size, 3, none⟩ = some (.int .u64 (df : Int)) := (hk.cell 3).trans rfl
    have z21 := hk.frozen 3
    have z22 : x1.cell? ⟨w.heap.size, 4, none⟩ = some (.int .u64 (pn : Int)) := (hk.cell 4).trans rfl
    have z23 := hk.frozen 4
    have z24 : x1.cell? ⟨w.heap.size, 5, none⟩ = some (.int .i64 ky) := (hk.cell 5).trans rfl
    have z25 := hk.frozen 5
    have z26 := hk.lt
    go_wp2_with fail
    go_ret
    exact ⟨by rw [HE.out]; rfl, (by have hs_ := hB.size; repeat (first | with_reducible exact hB | with_reducible (refine Below.setCell ?_ (by simp <;> omega) _) | with_reducible (refine Below.alloc ?_ (by first | exact hs_ | (simp <;> omega)) _) | with_reducible (refine Below.drew ?_)))⟩
  have d2 : decide ((st : Int) > 3) = false := by simp; omega
  by_cases h3 : sp < bs
  · have d3 : decide ((sp : Int) < (bs : Int)) = true := by simp; omega
    have d4 : (sp : Int) < (bs : Int) := by omega
    have HE := Lib.hid (show hdB g st co sp df pn ky = false from by unfold hdB; rw [← Bool.not_eq_true]; simp only [Bool.and_eq_true, decide_eq_true_eq]; rw [hbs]; omega)
    clear h3
    have hB : Below w.heap.size w (w.alloc (.cells #[.int .u8 (st : Int), .int .u64 (co : Int), .int .u64 (sp : Int), .int .u64 (df : Int), .int .u64 (pn : Int), .int .i64 ky] 94)) := (Below.alloc (Below.refl w.heap.size w) (by simp <;> omega) (.cells #[.int .u8 (st : Int), .int .u64 (co : Int), .int .u64 (sp : Int), .int .u64 (df : Int), .int .u64 (pn : Int), .int .i64 ky] 94))
    have hk := Blk.new w 94 #[.int .u8 (st : Int), .int .u64 (co : Int), .int .u64 (sp : Int), .int .u64 (df : Int), .int .u64 (pn : Int), .int .i64 ky]
    go_enter Try.func107, Try.ntmps107
    have z1 : (w.alloc (.cells #[.int .u8 (st : Int), .int .u64 (co : Int), .int .u64 (sp : Int), .int .u64 (df : Int), .int .u64 (pn : Int), .int .i64 ky] 94)).cell? ⟨w.heap.size, 0, none⟩ = some (.int .u8 (st : Int)) := (hk.cell 0).trans rfl
    have z2 := hk.frozen 0
    have z3 : (w.alloc (.cells #[.int .u8 (st : Int), .int .u64 (co : Int), .int .u64 (sp : Int), .int .u64 (df : Int), .int .u64 (pn : Int), .int .i64 ky] 94)).cell? ⟨w.heap.size, 1, none⟩ = some (.int .u64 (co : Int)) := (hk.cell 1).trans rfl
    have z4 := hk.frozen 1
    have z5 : (w.alloc (.cells #[.int .u8 (st : Int), .int .u64 (co : Int), .int .u64 (sp : Int), .int .u64 (df : Int), .int .u64 (pn : Int), .int .i64 ky] 94)).cell? ⟨w.heap.size, 2, none⟩ = some (.int .u64 (sp : Int)) := (hk.cell 2).trans rfl
    have z6 := hk.frozen 2
    have z7 : (w.alloc (.cells #[.int .u8 (st : Int), .int .u64 (co : Int), .int .u64 (sp : Int), .int .u64 (df : Int), .int .u64 (pn : Int), .int .i64 ky] 94)).cell? ⟨w.heap.size, 3, none⟩ = some (.int .u64 (df : Int)) := (hk.cell 3).trans rfl
    have z8 := hk.frozen 3
    have z9 : (w.alloc (.cells #[.int .u8 (st : Int), .int .u64 (co : Int), .int .u64 (sp : Int), .int .u64 (df : Int), .int .u64 (pn : Int), .int .i64 ky] 94)).cell? ⟨w.heap.size, 4, none⟩ = some (.int .u64 (pn : Int)) := (hk.cell 4).trans rfl
    have z10 := hk.frozen 4
    have z11 : (w.alloc (.cells #[.int .u8 (st : Int), .int .u64 (co : Int), .int .u64 (sp : Int), .int .u64 (df : Int), .int .u64 (pn : Int), .int .i64 ky] 94)).cell? ⟨w.heap.size, 5, none⟩ = some (.int .i64 ky) := (hk.cell 5).trans rfl
    have z12 := hk.frozen 5
    have z13 := hk.lt
    go_wp2_with fail
    clear z1 z2 z3 z4 z5 z6 z7 z8 z9 z10 z11 z12 z13
    refine nop_wp (ext_start (by kernel_rfl) calm_nop (fun hQ => ?_))
    replace hk : Blk (w.alloc (.cells #[.int .u8 (st : Int), .int .u64 (co : Int), .int .u64 (sp : Int), .int .u64 (df : Int), .int .u64 (pn : Int), .int .i64 ky] 94)).drew w.heap.size 94 #[.int .u8 (st : Int), .int .u64 (co : Int), .int .u64 (sp : Int), .int .u64 (df : Int), .int .u64 (pn : Int), .int .i64 ky] := (by repeat (first | with_reducible exact hk | with_reducible (apply Blk.set_) | with_reducible (apply Blk.far; case hp => (simp <;> omega)) | with_reducible (apply Blk.alloc) | with_reducible (apply Blk.drew)))
    replace hB : Below w.heap.size w (w.alloc (.cells #[.int .u8 (st : Int), .int .u64 (co : Int), .int .u64 (sp : Int), .int .u64 (df : Int), .int .u64 (pn : Int), .int .i64 ky] 94)).drew := Below.drew (by have hs_ := hB.size; repeat (first | with_reducible exact hB | with_reducible (refine Below.setCell ?_ (by simp <;> omega) _) | with_reducible (refine Below.alloc ?_ (by first | exact hs_ | (simp <;> omega)) _) | with_reducible (refine Below.drew ?_)))
    generalize (w.alloc (.cells #[.int .u8 (st : Int), .int .u64 (co : Int), .int .u64 (sp : Int), .int .u64 (df : Int), .int .u64 (pn : Int), .int .i64 ky] 94)).drew = x1 at *
    have X_hk_0 : ∀ W, Ext x1 W → W.cell? ⟨w.heap.size, 0, none⟩ = some (.int .u8 (st : Int)) := fun W h_ => ((hk.below h_ hk.lt).cell 0).trans rfl
    have X_hk_1 : ∀ W, Ext x1 W → W.cell? ⟨w.heap.size, 1, none⟩ = some (.int .u64 (co : Int)) := fun W h_ => ((hk.below h_ hk.lt).cell 1).trans rfl
    have X_hk_2 : ∀ W, Ext x1 W → W.cell? ⟨w.heap.size, 2, none⟩ = some (.int .u64 (sp : Int)) := fun W h_ => ((hk.below h_ hk.lt).cell 2).trans rfl
    have X_hk_3 : ∀ W, Ext x1 W → W.cell? ⟨w.heap.size, 3, none⟩ = some (.int .u64 (df : Int)) := fun W h_ => ((hk.below h_ hk.lt).cell 3).trans rfl
    have X_hk_4 : ∀ W, Ext x1 W → W.cell? ⟨w.heap.size, 4, none⟩ = some (.int .u64 (pn : Int)) := fun W h_ => ((hk.below h_ hk.lt).cell 4).trans rfl
    have X_hk_5 : ∀ W, Ext x1 W → W.cell? ⟨w.heap.size, 5, none⟩ = some (.int .i64 ky) := fun W h_ => ((hk.below h_ hk.lt).cell 5).trans rfl
    refine ext_take (i := 0) (oi := ?oil3a0) (v := ?vl3a0) ?hil3a0 (by kernel_rfl) (by kernel_rfl) (by kernel_rfl) hQ ?hwl3a0 ?hyl3a0 ?restl3a0
    case hil3a0 => simp only [List.getElem?_toArray, List.getElem?_cons_zero]; rfl
    case hwl3a0 => rfl
    case hyl3a0 => intro W hW; go_simp; with_reducible rfl
    simp only [Act.put, List.setIfInBounds_toArray, List.set_cons_zero, List.set_cons_succ]
    refine ext_take (i := 1) (oi := ?oil3a1) (v := ?vl3a1) ?hil3a1 (by kernel_rfl) (by kernel_rfl) (by kernel_rfl) hQ ?hwl3a1 ?hyl3a1 ?restl3a1
    case hil3a1 => simp only [List.getElem?_toArray, List.getElem?_cons_zero, List.getElem?_cons_succ]; rfl
    case hwl3a1 => rfl
    case hyl3a1 => intro W hW; go_simp; with_reducible rfl
    simp only [Act.put, List.setIfInBounds_toArray, List.set_cons_zero, List.set_cons_succ]
    refine ext_take (i := 2) (oi := ?oil3a2) (v := ?vl3a2) ?hil3a2 (by kernel_rfl) (by kernel_rfl) (by kernel_rfl) hQ ?hwl3a2 ?hyl3a2 ?restl3a2
    case hil3a2 => simp only [List.getElem?_toArray, List.getElem?_cons_zero, List.getElem?_cons_succ]; rfl
    case hwl3a2 => rfl
    case hyl3a2 => intro W hW; go_simp; with_reducible rfl
    simp only [Act.put, List.setIfInBounds_toArray, List.set_cons_zero, List.set_cons_succ]
    refine ext_step (i := 3) (oi := ?oil3a3) (by kernel_rfl) ?hil3a3 ?hwl3a3 (fun K hK => ?_)
    case hil3a3 => simp only [List.getElem?_toArray, List.getElem?_cons_zero, List.getElem?_cons_succ]; rfl
    case hwl3a3 => rfl
    go_simp
    refine (HBC.out _).mono ?_; rintro e wq ⟨rfl, rfl⟩; refine hK _ _ (Ext.refl _) ?_
    try simp only [Act.put, List.setIfInBounds_toArray, List.set_cons_zero, List.set_cons_succ]
    refine ext_take (i := 4) (oi := ?oil3a4) (v := ?vl3a4) ?hil3a4 (by kernel_rfl) (by kernel_rfl) (by kernel_rfl) hQ ?hwl3a4 ?hyl3a4 ?restl3a4
    case hil3a4 => simp only [List.getElem?_toArray, List.getElem?_cons_zero, List.getElem?_cons_succ]; rfl
    case hwl3a4 => rfl
    case hyl3a4 => intro W hW; go_simp; with_reducible rfl
    simp only [Act.put, List.setIfInBounds_toArray, List.set_cons_zero, List.set_cons_succ]
    refine ext_take (i := 5) (oi := ?oil3a5) (v := ?vl3a5) ?hil3a5 (by kernel_rfl) (by kernel_rfl) (by kernel_rfl) hQ ?hwl3a5 ?hyl3a5 ?restl3a5
    case hil3a5 => simp only [List.getElem?_toArray, List.getElem?_cons_zero, List.getElem?_cons_succ]; rfl
    case hwl3a5 => rfl
    case hyl3a5 => intro W hW; go_simp; with_reducible rfl
    simp only [Act.put, List.setIfInBounds_toArray, List.set_cons_zero, List.set_cons_succ]
    refine wpAnyH_done (by kernel_rfl) ?_ _
    simp only [NoP]
    clear X_hk_0 X_hk_1 X_hk_2 X_hk_3 X_hk_4 X_hk_5
    have z14 : x1.cell? ⟨w.heap.size, 0, none⟩ = some (.int .u8 (st : Int)) := (hk.cell 0).trans rfl
    have z15 := hk.frozen 0
    have z16 : x1.cell? ⟨w.heap.size, 1, none⟩ = some (.int .u64 (co : Int)) := (hk.cell 1).trans rfl
    have z17 := hk.frozen 1
    have z18 : x1.cell? ⟨w.heap.size, 2, none⟩ = some (.int .u64 (sp : Int)) := (hk.cell 2).trans rfl
    have z19 := hk.frozen 2
    have z20 : x1.cell? ⟨w.heap.size, 3, none⟩ = some (.int .u64 (df : Int)) := (hk.cell 3).trans rfl
    have z21 := hk.frozen 3
    have z22 : x1.cell? ⟨w.heap.size, 4, none⟩ = some (.int .u64 (pn : Int)) := (hk.cell 4).trans rfl
    have z23 := hk.frozen 4
    have z24 : x1.cell? ⟨w.heap.size, 5, none⟩ = some (.int .i64 ky) := (hk.cell 5).trans rfl
    have z25 := hk.frozen 5
    have z26 := hk.lt
    go_wp2_with fail
    clear z14 z15 z16 z17 z18 z19 z20 z21 z22 z23 z24 z25 z26
    refine nop_wp (ext_start (by kernel_rfl) calm_nop (fun hQ => ?_))
    replace hk : Blk x1.drew w.heap.size 94 #[.int .u8 (st : Int), .int .u64 (co : Int), .int .u64 (sp : Int), .int .u64 (df : Int), .int .u64 (pn : Int), .int .i64 ky] := (by repeat (first | with_reducible exact hk | with_reducible (apply Blk.set_) | with_reducible (apply Blk.far; case hp => (simp <;> omega)) | with_reducible (apply Blk.alloc) | with_reducible (apply Blk.drew)))
    replace hB : Below w.heap.size w x1.drew := Below.drew (by have hs_ := hB.size; repeat (first | with_reducible exact hB | with_reducible (refine Below.setCell ?_ (by simp <;> omega) _) | with_reducible (refine Below.alloc ?_ (by first | exact hs_ | (simp <;> omega)) _) | with_reducible (refine Below.drew ?_)))
    generalize x1.drew = x2 at *
    have X_hk_0 : ∀ W, Ext x2 W → W.cell? ⟨w.heap.size, 0, none⟩ = some (.int .u8 (st : Int)) := fun W h_ => ((hk.below h_ hk.lt).cell 0).trans rfl
    have X_hk_1 : ∀ W, Ext x2 W → W.cell? ⟨w.heap.size, 1, none⟩ = some (.int .u64 (co : Int)) := fun W h_ => ((hk.below h_ hk.lt).cell 1).trans rfl
    have X_hk_2 : ∀ W, Ext x2 W → W.cell? ⟨w.heap.size, 2, none⟩ = some (.int .u64 (sp : Int)) := fun W h_ => ((hk.below h_ hk.lt).cell 2).trans rfl
    have X_hk_3 : ∀ W, Ext x2 W → W.cell? ⟨w.heap.size, 3, none⟩ = some (.int .u64 (df : Int)) := fun W h_ => ((hk.below h_ hk.lt).cell 3).trans rfl
    have X_hk_4 : ∀ W, Ext x2 W → W.cell? ⟨w.heap.size, 4, none⟩ = some (.int .u64 (pn : Int)) := fun W h_ => ((hk.below h_ hk.lt).cell 4).trans rfl
    have X_hk_5 : ∀ W, Ext x2 W → W.cell? ⟨w.heap.size, 5, none⟩ = some (.int .i64 ky) := fun W h_ => ((hk.below h_ hk.lt).cell 5).trans rfl
    refine ext_take (i := 0) (oi := ?oil3b0) (v := ?vl3b0) ?hil3b0 (by kernel_rfl) (by kernel_rfl) (by kernel_rfl) hQ ?hwl3b0 ?hyl3b0 ?restl3b0
    case hil3b0 => simp only [List.getElem?_toArray, List.getElem?_cons_zero]; rfl
    case hwl3b0 => rfl
    case hyl3b0 => intro W hW; go_simp; with_reducible rfl
    simp only [Act.put, List.setIfInBounds_toArray, List.set_cons_zero, List.set_cons_succ]
    refine ext_take (i := 1) (oi := ?oil3b1) (v := ?vl3b1) ?hil3b1 (by kernel_rfl) (by kernel_rfl) (by kernel_rfl) hQ ?hwl3b1 ?hyl3b1 ?restl3b1
    case hil3b1 => simp only [List.getElem?_toArray, List.getElem?_cons_zero, List.getElem?_cons_succ]; rfl
    case hwl3b1 => rfl
    case hyl3b1 => intro W hW; go_simp; with_reducible rfl
    simp only [Act.put, List.setIfInBounds_toArray, List.set_cons_zero, List.set_cons_succ]
    refine ext_take (i := 2) (oi := ?oil3b2) (v := ?vl3b2) ?hil3b2 (by kernel_rfl) (by kernel_rfl) (by kernel_rfl) hQ ?hwl3b2 ?hyl3b2 ?restl3b2
    case hil3b2 => simp only [List.getElem?_toArray, List.getElem?_cons_zero, List.getElem?_cons_succ]; rfl
    case hwl3b2 => rfl
    case hyl3b2 => intro W hW; go_simp; with_reducible rfl
    simp only [Act.put, List.setIfInBounds_toArray, List.set_cons_zero, List.set_cons_succ]
    refine ext_step (i := 3) (oi := ?oil3b3) (by kernel_rfl) ?hil3b3 ?hwl3b3 (fun K hK => ?_)
    case hil3b3 => simp only [List.getElem?_toArray, List.getElem?_cons_zero, List.getElem?_cons_succ]; rfl
    case hwl3b3 => rfl
    go_simp
    refine (HBC.out _).mono ?_; rintro e wq ⟨rfl, rfl⟩; refine hK _ _ (Ext.refl _) ?_
    try simp only [Act.put, List.setIfInBounds_toArray, List.set_cons_zero, List.set_cons_succ]
    refine ext_take (i := 4) (oi := ?oil3b4) (v := ?vl3b4) ?hil3b4 (by kernel_rfl) (by kernel_rfl) (by kernel_rfl) hQ ?hwl3b4 ?hyl3b4 ?restl3b4
    case hil3b4 => simp only [List.getElem?_toArray, List.getElem?_cons_zero, List.getElem?_cons_succ]; rfl
    case hwl3b4 => rfl
    case hyl3b4 => intro W hW; go_simp; with_reducible rfl
    simp only [Act.put, List.setIfInBounds_toArray, List.set_cons_zero, List.set_cons_succ]
    refine ext_take (i := 5) (oi := ?oil3b5) (v := ?vl3b5) ?hil3b5 (by kernel_rfl) (by kernel_rfl) (by kernel_rfl) hQ ?hwl3b5 ?hyl3b5 ?restl3b5
    case hil3b5 => simp only [List.getElem?_toArray, List.getElem?_cons_zero, List.getElem?_cons_succ]; rfl
    case hwl3b5 => rfl
    case hyl3b5 => intro W hW; go_simp; with_reducible rfl
    simp only [Act.put, List.setIfInBounds_toArray, List.set_cons_zero, List.set_cons_succ]
    refine ext_skip (i := 6) (oi := ?oil3b6) ?hil3b6 (by kernel_rfl) (by kernel_rfl) (by kernel_rfl) hQ ?hwl3b6 ?restl3b6
    case hil3b6 => simp only [List.getElem?_toArray, List.getElem?_cons_zero, List.getElem?_cons_succ]; rfl
    case hwl3b6 => rfl
    simp only [Act.put, List.setIfInBounds_toArray, List.set_cons_zero, List.set_cons_succ]
    refine ext_skip (i := 7) (oi := ?oil3b7) ?hil3b7 (by kernel_rfl) (by kernel_rfl) (by kernel_rfl) hQ ?hwl3b7 ?restl3b7
    case hil3b7 => simp only [List.getElem?_toArray, List.getElem?_cons_zero, List.getElem?_cons_succ]; rfl
    case hwl3b7 => rfl
    simp only [Act.put, List.setIfInBounds_toArray, List.set_cons_zero, List.set_cons_succ]
    refine ext_take (i := 8) (oi := ?oil3b8) (v := ?vl3b8) ?hil3b8 (by kernel_rfl) (by kernel_rfl) (by kernel_rfl) hQ ?hwl3b8 ?hyl3b8 ?restl3b8
    case hil3b8 => simp only [List.getElem?_toArray, List.getElem?_cons_zero, List.getElem?_cons_succ]; rfl
    case hwl3b8 => rfl
    case hyl3b8 => intro W hW; go_simp; with_reducible rfl
    simp only [Act.put, List.setIfInBounds_toArray, List.set_cons_zero, List.set_cons_succ]
    refine ext_take (i := 9) (oi := ?oil3b9) (v := ?vl3b9) ?hil3b9 (by kernel_rfl) (by kernel_rfl) (by kernel_rfl) hQ ?hwl3b9 ?hyl3b9 ?restl3b9
    case hil3b9 => simp only [List.getElem?_toArray, List.getElem?_cons_zero, List.getElem?_cons_succ]; rfl
    case hwl3b9 => rfl
    case hyl3b9 => intro W hW; go_simp; with_reducible rfl
    simp only [Act.put, List.setIfInBounds_toArray, List.set_cons_zero, List.set_cons_succ]
    refine wpAnyH_done (by kernel_rfl) ?_ _
    simp only [NoP]
    clear X_hk_0 X_hk_1 X_hk_2 X_hk_3 X_hk_4 X_hk_5
    have z27 : x2.cell? ⟨w.heap.size, 0, none⟩ = some (.int .u8 (st : Int)) := (hk.cell 0).trans rfl
    have z28 := hk.frozen 0
    have z29 : x2.cell? ⟨w.heap.size, 1, none⟩ = some (.int .u64 (co : Int)) := (hk.cell 1).trans rfl
    have z30 := hk.frozen 1
    have z31 : x2.cell? ⟨w.heap.size, 2, none⟩ = some (.int .u64 (sp : Int)) := (hk.cell 2).trans rfl
    have z32 := hk.frozen 2
    have z33 : x2.cell? ⟨w.heap.size, 3, none⟩ = some (.int .u64 (df : Int)) := (hk.cell 3).trans rfl
    have z34 := hk.frozen 3
    have z35 : x2.cell? ⟨w.heap.size, 4, none⟩ = some (.int .u64 (pn : Int)) := (hk.cell 4).trans rfl
    have z36 := hk.frozen 4
    have z37 : x2.cell? ⟨w.heap.size, 5, none⟩ = some (.int .i64 ky) := (hk.cell 5).trans rfl
    have z38 := hk.frozen 5
    have z39 := hk.lt
    go_wp2_with fail
    go_ret
    exact ⟨by rw [HE.out]; rfl, (by have hs_ := hB.size; repeat (first | with_reducible exact hB | with_reducible (refine Below.setCell ?_ (by simp <;> omega) _) | with_reducible (refine Below.alloc ?_ (by first | exact hs_ | (simp <;> omega)) _) | with_reducible (refine Below.drew ?_)))⟩
  have d3 : decide ((sp : Int) < (bs : Int)) = false := by simp; omega
  obtain rfl : q = ((sp - bs : Nat) : Int) := by rw [← hq, IntKind.wrap_u64]; omega
  obtain ⟨z, hz⟩ : ∃ z, sp - bs = z := ⟨_, rfl⟩
  rw [hz] at hq
  by_cases h4 : 4096 < z
  · have d4 : decide ((z : Int) > 4096) = true := by simp; omega
    have d5 : (4096 : Int) < (z : Int) := by omega
    have HE := Lib.hid (show hdB g st co sp df pn ky = false from by unfold hdB; rw [← Bool.not_eq_true]; simp only [Bool.and_eq_true, decide_eq_true_eq]; rw [hbs]; omega)
    clear h4
    have hB : Below w.heap.size w (w.alloc (.cells #[.int .u8 (st : Int), .int .u64 (co : Int), .int .u64 (sp : Int), .int .u64 (df : Int), .int .u64 (pn : Int), .int .i64 ky] 94)) := (Below.alloc (Below.refl w.heap.size w) (by simp <;> omega) (.cells #[.int .u8 (st : Int), .int .u64 (co : Int), .int .u64 (sp : Int), .int .u64 (df : Int), .int .u64 (pn : Int), .int .i64 ky] 94))
    have hk := Blk.new w 94 #[.int .u8 (st : Int), .int .u64 (co : Int), .int .u64 (sp : Int), .int .u64 (df : Int), .int .u64 (pn : Int), .int .i64 ky]
    go_enter Try.func107, Try.ntmps107
    have z1 : (w.alloc (.cells #[.int .u8 (st : Int), .int .u64 (co : Int), .int .u64 (sp : Int), .int .u64 (df : Int), .int .u64 (pn : Int), .int .i64 ky] 94)).cell? ⟨w.heap.size, 0, none⟩ = some (.int .u8 (st : Int)) := (hk.cell 0).trans rfl
    have z2 := hk.frozen 0
    have z3 : (w.alloc (.cells #[.int .u8 (st : Int), .int .u64 (co : Int), .int .u64 (sp : Int), .int .u64 (df : Int), .int .u64 (pn : Int), .int .i64 ky] 94)).cell? ⟨w.heap.size, 1, none⟩ = some (.int .u64 (co : Int)) := (hk.cell 1).trans rfl
    have z4 := hk.frozen 1
    have z5 : (w.alloc (.cells #[.int .u8 (st : Int), .int .u64 (co : Int), .int .u64 (sp : Int), .int .u64 (df : Int), .int .u64 (pn : Int), .int .i64 ky] 94)).cell? ⟨w.heap.size, 2, none⟩ = some (.int .u64 (sp : Int)) := (hk.cell 2).trans rfl
    have z6 := hk.frozen 2
    have z7 : (w.alloc (.cells #[.int .u8 (st : Int), .int .u64 (co : Int), .int .u64 (sp : Int), .int .u64 (df : Int), .int .u64 (pn : Int), .int .i64 ky] 94)).cell? ⟨w.heap.size, 3, none⟩ = some (.int .u64 (df : Int)) := (hk.cell 3).trans rfl
    have z8 := hk.frozen 3
    have z9 : (w.alloc (.cells #[.int .u8 (st : Int), .int .u64 (co : Int), .int .u64 (sp : Int), .int .u64 (df : Int), .int .u64 (pn : Int), .int .i64 ky] 94)).cell? ⟨w.heap.size, 4, none⟩ = some (.int .u64 (pn : Int)) := (hk.cell 4).trans rfl
    have z10 := hk.frozen 4
    have z11 : (w.alloc (.cells #[.int .u8 (st : Int), .int .u64 (co : Int), .int .u64 (sp : Int), .int .u64 (df : Int), .int .u64 (pn : Int), .int .i64 ky] 94)).cell? ⟨w.heap.size, 5, none⟩ = some (.int .i64 ky) := (hk.cell 5).trans rfl
    have z12 := hk.frozen 5
    have z13 := hk.lt
    go_wp2_with fail
    clear z1 z2 z3 z4 z5 z6 z7 z8 z9 z10 z11 z12 z13
    refine nop_wp (ext_start (by kernel_rfl) calm_nop (fun hQ => ?_))
    replace hk : Blk (w.alloc (.cells #[.int .u8 (st : Int), .int .u64 (co : Int), .int .u64 (sp : Int), .int .u64 (df : Int), .int .u64 (pn : Int), .int .i64 ky] 94)).drew w.heap.size 94 #[.int .u8 (st : Int), .int .u64 (co : Int), .int .u64 (sp : Int), .int .u64 (df : Int), .int .u64 (pn : Int), .int .i64 ky] := (by repeat (first | with_reducible exact hk | with_reducible (apply Blk.set_) | with_reducible (apply Blk.far; case hp => (simp <;> omega)) | with_reducible (apply Blk.alloc) | with_reducible (apply Blk.drew)))
    replace hB : Below w.heap.size w (w.alloc (.cells #[.int .u8 (st : Int), .int .u64 (co : Int), .int .u64 (sp : Int), .int .u64 (df : Int), .int .u64 (pn : Int), .int .i64 ky] 94)).drew := Below.drew (by have hs_ := hB.size; repeat (first | with_reducible exact hB | with_reducible (refine Below.setCell ?_ (by simp <;> omega) _) | with_reducible (refine Below.alloc ?_ (by first | exact hs_ | (simp <;> omega)) _) | with_reducible (refine Below.drew ?_)))
    generalize (w.alloc (.cells #[.int .u8 (st : Int), .int .u64 (co : Int), .int .u64 (sp : Int), .int .u64 (df : Int), .int .u64 (pn : Int), .int .i64 ky] 94)).drew = x1 at *
    have X_hk_0 : ∀ W, Ext x1 W → W.cell? ⟨w.heap.size, 0, none⟩ = some (.int .u8 (st : Int)) := fun W h_ => ((hk.below h_ hk.lt).cell 0).trans rfl
    have X_hk_1 : ∀ W, Ext x1 W → W.cell? ⟨w.heap.size, 1, none⟩ = some (.int .u64 (co : Int)) := fun W h_ => ((hk.below h_ hk.lt).cell 1).trans rfl
    have X_hk_2 : ∀ W, Ext x1 W → W.cell? ⟨w.heap.size, 2, none⟩ = some (.int .u64 (sp : Int)) := fun W h_ => ((hk.below h_ hk.lt).cell 2).trans rfl
    have X_hk_3 : ∀ W, Ext x1 W → W.cell? ⟨w.heap.size, 3, none⟩ = some (.int .u64 (df : Int)) := fun W h_ => ((hk.below h_ hk.lt).cell 3).trans rfl
    have X_hk_4 : ∀ W, Ext x1 W → W.cell? ⟨w.heap.size, 4, none⟩ = some (.int .u64 (pn : Int)) := fun W h_ => ((hk.below h_ hk.lt).cell 4).trans rfl
    have X_hk_5 : ∀ W, Ext x1 W → W.cell? ⟨w.heap.size, 5, none⟩ = some (.int .i64 ky) := fun W h_ => ((hk.below h_ hk.lt).cell 5).trans rfl
    refine ext_take (i := 0) (oi := ?oil4a0) (v := ?vl4a0) ?hil4a0 (by kernel_rfl) (by kernel_rfl) (by kernel_rfl) hQ ?hwl4a0 ?hyl4a0 ?restl4a0
    case hil4a0 => simp only [List.getElem?_toArray, List.getElem?_cons_zero]; rfl
    case hwl4a0 => rfl
    case hyl4a0 => intro W hW; go_simp; with_reducible rfl
    simp only [Act.put, List.setIfInBounds_toArray, List.set_cons_zero, List.set_cons_succ]
    refine ext_take (i := 1) (oi := ?oil4a1) (v := ?vl4a1) ?hil4a1 (by kernel_rfl) (by kernel_rfl) (by kernel_rfl) hQ ?hwl4a1 ?hyl4a1 ?restl4a1
    case hil4a1 => simp only [List.getElem?_toArray, List.getElem?_cons_zero, List.getElem?_cons_succ]; rfl
    case hwl4a1 => rfl
    case hyl4a1 => intro W hW; go_simp; with_reducible rfl
    simp only [Act.put, List.setIfInBounds_toArray, List.set_cons_zero, List.set_cons_succ]
    refine ext_take (i := 2) (oi := ?oil4a2) (v := ?vl4a2) ?hil4a2 (by kernel_rfl) (by kernel_rfl) (by kernel_rfl) hQ ?hwl4a2 ?hyl4a2 ?restl4a2
    case hil4a2 => simp only [List.getElem?_toArray, List.getElem?_cons_zero, List.getElem?_cons_succ]; rfl
    case hwl4a2 => rfl
    case hyl4a2 => intro W hW; go_simp; with_reducible rfl
    simp only [Act.put, List.setIfInBounds_toArray, List.set_cons_zero, List.set_cons_succ]
    refine ext_step (i := 3) (oi := ?oil4a3) (by kernel_rfl) ?hil4a3 ?hwl4a3 (fun K hK => ?_)
    case hil4a3 => simp only [List.getElem?_toArray, List.getElem?_cons_zero, List.getElem?_cons_succ]; rfl
    case hwl4a3 => rfl
    go_simp
    refine (HBC.out _).mono ?_; rintro e wq ⟨rfl, rfl⟩; refine hK _ _ (Ext.refl _) ?_
    try simp only [Act.put, List.setIfInBounds_toArray, List.set_cons_zero, List.set_cons_succ]
    refine ext_take (i := 4) (oi := ?oil4a4) (v := ?vl4a4) ?hil4a4 (by kernel_rfl) (by kernel_rfl) (by kernel_rfl) hQ ?hwl4a4 ?hyl4a4 ?restl4a4
    case hil4a4 => simp only [List.getElem?_toArray, List.getElem?_cons_zero, List.getElem?_cons_succ]; rfl
    case hwl4a4 => rfl
    case hyl4a4 => intro W hW; go_simp; with_reducible rfl
    simp only [Act.put, List.setIfInBounds_toArray, List.set_cons_zero, List.set_cons_succ]
    refine ext_take (i := 5) (oi := ?oil4a5) (v := ?vl4a5) ?hil4a5 (by kernel_rfl) (by kernel_rfl) (by kernel_rfl) hQ ?hwl4a5 ?hyl4a5 ?restl4a5
    case hil4a5 => simp only [List.getElem?_toArray, List.getElem?_cons_zero, List.getElem?_cons_succ]; rfl
    case hwl4a5 => rfl
    case hyl4a5 => intro W hW; go_simp; with_reducible rfl
    simp only [Act.put, List.setIfInBounds_toArray, List.set_cons_zero, List.set_cons_succ]
    refine wpAnyH_done (by kernel_rfl) ?_ _
    simp only [NoP]
    clear X_hk_0 X_hk_1 X_hk_2 X_hk_3 X_hk_4 X_hk_5
    have z14 : x1.cell? ⟨w.heap.size, 0, none⟩ = some (.int .u8 (st : Int)) := (hk.cell 0).trans rfl
    have z15 := hk.frozen 0
    have z16 : x1.cell? ⟨w.heap.size, 1, none⟩ = some (.int .u64 (co : Int)) := (hk.cell 1).trans rfl
    have z17 := hk.frozen 1
    have z18 : x1.cell? ⟨w.heap.size, 2, none⟩ = some (.int .u64 (sp : Int)) := (hk.cell 2).trans rfl
    have z19 := hk.frozen 2
    have z20 : x1.cell? ⟨w.heap.size, 3, none⟩ = some (.int .u64 (df : Int)) := (hk.cell 3).trans rfl
    have z21 := hk.frozen 3
    have z22 : x1.cell? ⟨w.heap.size, 4, none⟩ = some (.int .u64 (pn : Int)) := (hk.cell 4).trans rfl
    have z23 := hk.frozen 4
    have z24 : x1.cell? ⟨w.heap.size, 5, none⟩ = some (.int .i64 ky) := (hk.cell 5).trans rfl
    have z25 := hk.frozen 5
    have z26 := hk.lt
    go_wp2_with fail
    clear z14 z15 z16 z17 z18 z19 z20 z21 z22 z23 z24 z25 z26
    refine nop_wp (ext_start (by kernel_rfl) calm_nop (fun hQ => ?_))
    replace hk : Blk x1.drew w.heap.size 94 #[.int .u8 (st : Int), .int .u64 (co : Int), .int .u64 (sp : Int), .int .u64 (df : Int), .int .u64 (pn : Int), .int .i64 ky] := (by repeat (first | with_reducible exact hk | with_reducible (apply Blk.set_) | with_reducible (apply Blk.far; case hp => (simp <;> omega)) | with_reducible (apply Blk.alloc) | with_reducible (apply Blk.drew)))
    replace hB : Below w.heap.size w x1.drew := Below.drew (by have hs_ := hB.size; repeat (first | with_reducible exact hB | with_reducible (refine Below.setCell ?_ (by simp <;> omega) _) | with_reducible (refine Below.alloc ?_ (by first | exact hs_ | (simp <;> omega)) _) | with_reducible (refine Below.drew ?_)))
    generalize x1.drew = x2 at *
    have X_hk_0 : ∀ W, Ext x2 W → W.cell? ⟨w.heap.size, 0, none⟩ = some (.int .u8 (st : Int)) := fun W h_ => ((hk.below h_ hk.lt).cell 0).trans rfl
    have X_hk_1 : ∀ W, Ext x2 W → W.cell? ⟨w.heap.size, 1, none⟩ = some (.int .u64 (co : Int)) := fun W h_ => ((hk.below h_ hk.lt).cell 1).trans rfl
    have X_hk_2 : ∀ W, Ext x2 W → W.cell? ⟨w.heap.size, 2, none⟩ = some (.int .u64 (sp : Int)) := fun W h_ => ((hk.below h_ hk.lt).cell 2).trans rfl
    have X_hk_3 : ∀ W, Ext x2 W → W.cell? ⟨w.heap.size, 3, none⟩ = some (.int .u64 (df : Int)) := fun W h_ => ((hk.below h_ hk.lt).cell 3).trans rfl
    have X_hk_4 : ∀ W, Ext x2 W → W.cell? ⟨w.heap.size, 4, none⟩ = some (.int .u64 (pn : Int)) := fun W h_ => ((hk.below h_ hk.lt).cell 4).trans rfl
    have X_hk_5 : ∀ W, Ext x2 W → W.cell? ⟨w.heap.size, 5, none⟩ = some (.int .i64 ky) := fun W h_ => ((hk.below h_ hk.lt).cell 5).trans rfl
    refine ext_take (i := 0) (oi := ?oil4b0) (v := ?vl4b0) ?hil4b0 (by kernel_rfl) (by kernel_rfl) (by kernel_rfl) hQ ?hwl4b0 ?hyl4b0 ?restl4b0
    case hil4b0 => simp only [List.getElem?_toArray, List.getElem?_cons_zero]; rfl
    case hwl4b0 => rfl
    case hyl4b0 => intro W hW; go_simp; with_reducible rfl
    simp only [Act.put, List.setIfInBounds_toArray, List.set_cons_zero, List.set_cons_succ]
    refine ext_take (i := 1) (oi := ?oil4b1) (v := ?vl4b1) ?hil4b1 (by kernel_rfl) (by kernel_rfl) (by kernel_rfl) hQ ?hwl4b1 ?hyl4b1 ?restl4b1
    case hil4b1 => simp only [List.getElem?_toArray, List.getElem?_cons_zero, List.getElem?_cons_succ]; rfl
    case hwl4b1 => rfl
    case hyl4b1 => intro W hW; go_simp; with_reducible rfl
    simp only [Act.put, List.setIfInBounds_toArray, List.set_cons_zero, List.set_cons_succ]
    refine ext_take (i := 2) (oi := ?oil4b2) (v := ?vl4b2) ?hil4b2 (by kernel_rfl) (by kernel_rfl) (by kernel_rfl) hQ ?hwl4b2 ?hyl4b2 ?restl4b2
    case hil4b2 => simp only [List.getElem?_toArray, List.getElem?_cons_zero, List.getElem?_cons_succ]; rfl
    case hwl4b2 => rfl
    case hyl4b2 => intro W hW; go_simp; with_reducible rfl
    simp only [Act.put, List.setIfInBounds_toArray, List.set_cons_zero, List.set_cons_succ]
    refine ext_step (i := 3) (oi := ?oil4b3) (by kernel_rfl) ?hil4b3 ?hwl4b3 (fun K hK => ?_)
    case hil4b3 => simp only [List.getElem?_toArray, List.getElem?_cons_zero, List.getElem?_cons_succ]; rfl
    case hwl4b3 => rfl
    go_simp
    refine (HBC.out _).mono ?_; rintro e wq ⟨rfl, rfl⟩; refine hK _ _ (Ext.refl _) ?_
    try simp only [Act.put, List.setIfInBounds_toArray, List.set_cons_zero, List.set_cons_succ]
    refine ext_take (i := 4) (oi := ?oil4b4) (v := ?vl4b4) ?hil4b4 (by kernel_rfl) (by kernel_rfl) (by kernel_rfl) hQ ?hwl4b4 ?hyl4b4 ?restl4b4
    case hil4b4 => simp only [List.getElem?_toArray, List.getElem?_cons_zero, List.getElem?_cons_succ]; rfl
    case hwl4b4 => rfl
    case hyl4b4 => intro W hW; go_simp; with_reducible rfl
    simp only [Act.put, List.setIfInBounds_toArray, List.set_cons_zero, List.set_cons_succ]
    refine ext_take (i := 5) (oi := ?oil4b5) (v := ?vl4b5) ?hil4b5 (by kernel_rfl) (by kernel_rfl) (by kernel_rfl) hQ ?hwl4b5 ?hyl4b5 ?restl4b5
    case hil4b5 => simp only [List.getElem?_toArray, List.getElem?_cons_zero, List.getElem?_cons_succ]; rfl
    case hwl4b5 => rfl
    case hyl4b5 => intro W hW; go_simp; with_reducible rfl
    simp only [Act.put, List.setIfInBounds_toArray, List.set_cons_zero, List.set_cons_succ]
    refine ext_take (i := 6) (oi := ?oil4b6) (v := ?vl4b6) ?hil4b6 (by kernel_rfl) (by kernel_rfl) (by kernel_rfl) hQ ?hwl4b6 ?hyl4b6 ?restl4b6
    case hil4b6 => simp only [List.getElem?_toArray, List.getElem?_cons_zero, List.getElem?_cons_succ]; rfl
    case hwl4b6 => rfl
    case hyl4b6 => intro W hW; go_simp; with_reducible rfl
    simp only [Act.put, List.setIfInBounds_toArray, List.set_cons_zero, List.set_cons_succ]
    refine ext_take (i := 7) (oi := ?oil4b7) (v := ?vl4b7) ?hil4b7 (by kernel_rfl) (by kernel_rfl) (by kernel_rfl) hQ ?hwl4b7 ?hyl4b7 ?restl4b7
    case hil4b7 => simp only [List.getElem?_toArray, List.getElem?_cons_zero, List.getElem?_cons_succ]; rfl
    case hwl4b7 => rfl
    case hyl4b7 => intro W hW; go_simp; with_reducible rfl
    simp only [Act.put, List.setIfInBounds_toArray, List.set_cons_zero, List.set_cons_succ]
    refine ext_take (i := 8) (oi := ?oil4b8) (v := ?vl4b8) ?hil4b8 (by kernel_rfl) (by kernel_rfl) (by kernel_rfl) hQ ?hwl4b8 ?hyl4b8 ?restl4b8
    case hil4b8 => simp only [List.getElem?_toArray, List.getElem?_cons_zero, List.getElem?_cons_succ]; rfl
    case hwl4b8 => rfl
    case hyl4b8 => intro W hW; go_simp; with_reducible rfl
    simp only [Act.put, List.setIfInBounds_toArray, List.set_cons_zero, List.set_cons_succ]
    refine ext_take (i := 9) (oi := ?oil4b9) (v := ?vl4b9) ?hil4b9 (by kernel_rfl) (by kernel_rfl) (by kernel_rfl) hQ ?hwl4b9 ?hyl4b9 ?restl4b9
    case hil4b9 => simp only [List.getElem?_toArray, List.getElem?_cons_zero, List.getElem?_cons_succ]; rfl
    case hwl4b9 => rfl
    case hyl4b9 => intro W hW; go_simp; with_reducible rfl
    simp only [Act.put, List.setIfInBounds_toArray, List.set_cons_zero, List.set_cons_succ]
    refine wpAnyH_done (by kernel_rfl) ?_ _
    simp only [NoP]
    clear X_hk_0 X_hk_1 X_hk_2 X_hk_3 X_hk_4 X_hk_5
    have z27 : x2.cell? ⟨w.heap.size, 0, none⟩ = some (.int .u8 (st : Int)) := (hk.cell 0).trans rfl
    have z28 := hk.frozen 0
    have z29 : x2.cell? ⟨w.heap.size, 1, none⟩ = some (.int .u64 (co : Int)) := (hk.cell 1).trans rfl
    have z30 := hk.frozen 1
    have z31 : x2.cell? ⟨w.heap.size, 2, none⟩ = some (.int .u64 (sp : Int)) := (hk.cell 2).trans rfl
    have z32 := hk.frozen 2
    have z33 : x2.cell? ⟨w.heap.size, 3, none⟩ = some (.int .u64 (df : Int)) := (hk.cell 3).trans rfl
    have z34 := hk.frozen 3
    have z35 : x2.cell? ⟨w.heap.size, 4, none⟩ = some (.int .u64 (pn : Int)) := (hk.cell 4).trans rfl
    have z36 := hk.frozen 4
    have z37 : x2.cell? ⟨w.heap.size, 5, none⟩ = some (.int .i64 ky) := (hk.cell 5).trans rfl
    have z38 := hk.frozen 5
    have z39 := hk.lt
    go_wp2_with fail
    go_ret
    exact ⟨by rw [HE.out]; rfl, (by have hs_ := hB.size; repeat (first | with_reducible exact hB | with_reducible (refine Below.setCell ?_ (by simp <;> omega) _) | with_reducible (refine Below.alloc ?_ (by first | exact hs_ | (simp <;> omega)) _) | with_reducible (refine Below.drew ?_)))⟩
  have d4 : decide ((z : Int) > 4096) = false := by simp; omega
  by_cases h5 : m % 8 ≠ 0
  · have d5 : ((m : Int) % 8 != 0) = true := by rw [bne_iff_ne]; omega
    have hmm := HM8.out
    have HE := Lib.hid (show hdB g st co sp df pn ky = false from by unfold hdB; rw [← Bool.not_eq_true]; simp only [Bool.and_eq_true, decide_eq_true_eq]; rw [hbs]; omega)
    clear h5
    have hB : Below w.heap.size w (w.alloc (.cells #[.int .u8 (st : Int), .int .u64 (co : Int), .int .u64 (sp : Int), .int .u64 (df : Int), .int .u64 (pn : Int), .int .i64 ky] 94)) := (Below.alloc (Below.refl w.heap.size w) (by simp <;> omega) (.cells #[.int .u8 (st : Int), .int .u64 (co : Int), .int .u64 (sp : Int), .int .u64 (df : Int), .int .u64 (pn : Int), .int .i64 ky] 94))
    have hk := Blk.new w 94 #[.int .u8 (st : Int), .int .u64 (co : Int), .int .u64 (sp : Int), .int .u64 (df : Int), .int .u64 (pn : Int), .int .i64 ky]
    go_enter Try.func107, Try.ntmps107
    have z1 : (w.alloc (.cells #[.int .u8 (st : Int), .int .u64 (co : Int), .int .u64 (sp : Int), .int .u64 (df : Int), .int .u64 (pn : Int), .int .i64 ky] 94)).cell? ⟨w.heap.size, 0, none⟩ = some (.int .u8 (st : Int)) := (hk.cell 0).trans rfl
    have z2 := hk.frozen 0
    have z3 : (w.alloc (.cells #[.int .u8 (st : Int), .int .u64 (co : Int), .int .u64 (sp : Int), .int .u64 (df : Int), .int .u64 (pn : Int), .int .i64 ky] 94)).cell? ⟨w.heap.size, 1, none⟩ = some (.int .u64 (co : Int)) := (hk.cell 1).trans rfl
    have z4 := hk.frozen 1
    have z5 : (w.alloc (.cells #[.int .u8 (st : Int), .int .u64 (co : Int), .int .u64 (sp : Int), .int .u64 (df : Int), .int .u64 (pn : Int), .int .i64 ky] 94)).cell? ⟨w.heap.size, 2, none⟩ = some (.int .u64 (sp : Int)) := (hk.cell 2).trans rfl
    have z6 := hk.frozen 2
    have z7 : (w.alloc (.cells #[.int .u8 (st : Int), .int .u64 (co : Int), .int .u64 (sp : Int), .int .u64 (df : Int), .int .u64 (pn : Int), .int .i64 ky] 94)).cell? ⟨w.heap.size, 3, none⟩ = some (.int .u64 (df : Int)) := (hk.cell 3).trans rfl
    have z8 := hk.frozen 3
    have z9 : (w.alloc (.cells #[.int .u8 (st : Int), .int .u64 (co : Int), .int .u64 (sp : Int), .int .u64 (df : Int), .int .u64 (pn : Int), .int .i64 ky] 94)).cell? ⟨w.heap.size, 4, none⟩ = some (.int .u64 (pn : Int)) := (hk.cell 4).trans rfl
    have z10 := hk.frozen 4
    have z11 : (w.alloc (.cells #[.int .u8 (st : Int), .int .u64 (co : Int), .int .u64 (sp : Int), .int .u64 (df : Int), .int .u64 (pn : Int), .int .i64 ky] 94)).cell? ⟨w.heap.size, 5, none⟩ = some (.int .i64 ky) := (hk.cell 5).trans rfl
    have z12 := hk.frozen 5
    have z13 := hk.lt
    go_wp2_with fail
    clear z1 z2 z3 z4 z5 z6 z7 z8 z9 z10 z11 z12 z13
    refine nop_wp (ext_start (by kernel_rfl) calm_nop (fun hQ => ?_))
    replace hk : Blk (w.alloc (.cells #[.int .u8 (st : Int), .int .u64 (co : Int), .int .u64 (sp : Int), .int .u64 (df : Int), .int .u64 (pn : Int), .int .i64 ky] 94)).drew w.heap.size 94 #[.int .u8 (st : Int), .int .u64 (co : Int), .int .u64 (sp : Int), .int .u64 (df : Int), .int .u64 (pn : Int), .int .i64 ky] := (by repeat (first | with_reducible exact hk | with_reducible (apply Blk.set_) | with_reducible (apply Blk.far; case hp => (simp <;> omega)) | with_reducible (apply Blk.alloc) | with_reducible (apply Blk.drew)))
    replace hB : Below w.heap.size w (w.alloc (.cells #[.int .u8 (st : Int), .int .u64 (co : Int), .int .u64 (sp : Int), .int .u64 (df : Int), .int .u64 (pn : Int), .int .i64 ky] 94)).drew := Below.drew (by have hs_ := hB.size; repeat (first | with_reducible exact hB | with_reducible (refine Below.setCell ?_ (by simp <;> omega) _) | with_reducible (refine Below.alloc ?_ (by first | exact hs_ | (simp <;> omega)) _) | with_reducible (refine Below.drew ?_)))
    generalize (w.alloc (.cells #[.int .u8 (st : Int), .int .u64 (co : Int), .int .u64 (sp : Int), .int .u64 (df : Int), .int .u64 (pn : Int), .int .i64 ky] 94)).drew = x1 at *
    have X_hk_0 : ∀ W, Ext x1 W → W.cell? ⟨w.heap.size, 0, none⟩ = some (.int .u8 (st : Int)) := fun W h_ => ((hk.below h_ hk.lt).cell 0).trans rfl
    have X_hk_1 : ∀ W, Ext x1 W → W.cell? ⟨w.heap.size, 1, none⟩ = some (.int .u64 (co : Int)) := fun W h_ => ((hk.below h_ hk.lt).cell 1).trans rfl
    have X_hk_2 : ∀ W, Ext x1 W → W.cell? ⟨w.heap.size, 2, none⟩ = some (.int .u64 (sp : Int)) := fun W h_ => ((hk.below h_ hk.lt).cell 2).trans rfl
    have X_hk_3 : ∀ W, Ext x1 W → W.cell? ⟨w.heap.size, 3, none⟩ = some (.int .u64 (df : Int)) := fun W h_ => ((hk.below h_ hk.lt).cell 3).trans rfl
    have X_hk_4 : ∀ W, Ext x1 W → W.cell? ⟨w.heap.size, 4, none⟩ = some (.int .u64 (pn : Int)) := fun W h_ => ((hk.below h_ hk.lt).cell 4).trans rfl
    have X_hk_5 : ∀ W, Ext x1 W → W.cell? ⟨w.heap.size, 5, none⟩ = some (.int .i64 ky) := fun W h_ => ((hk.below h_ hk.lt).cell 5).trans rfl
    refine ext_take (i := 0) (oi := ?oil5a0) (v := ?vl5a0) ?hil5a0 (by kernel_rfl) (by kernel_rfl) (by kernel_rfl) hQ ?hwl5a0 ?hyl5a0 ?restl5a0
    case hil5a0 => simp only [List.getElem?_toArray, List.getElem?_cons_zero]; rfl
    case hwl5a0 => rfl
    case hyl5a0 => intro W hW; go_simp; with_reducible rfl
    simp only [Act.put, List.setIfInBounds_toArray, List.set_cons_zero, List.set_cons_succ]
    refine ext_take (i := 1) (oi := ?oil5a1) (v := ?vl5a1) ?hil5a1 (by kernel_rfl) (by kernel_rfl) (by kernel_rfl) hQ ?hwl5a1 ?hyl5a1 ?restl5a1
    case hil5a1 => simp only [List.getElem?_toArray, List.getElem?_cons_zero, List.getElem?_cons_succ]; rfl
    case hwl5a1 => rfl
    case hyl5a1 => intro W hW; go_simp; with_reducible rfl
    simp only [Act.put, List.setIfInBounds_toArray, List.set_cons_zero, List.set_cons_succ]
    refine ext_take (i := 2) (oi := ?oil5a2) (v := ?vl5a2) ?hil5a2 (by kernel_rfl) (by kernel_rfl) (by kernel_rfl) hQ ?hwl5a2 ?hyl5a2 ?restl5a2
    case hil5a2 => simp only [List.getElem?_toArray, List.getElem?_cons_zero, List.getElem?_cons_succ]; rfl
    case hwl5a2 => rfl
    case hyl5a2 => intro W hW; go_simp; with_reducible rfl
    simp only [Act.put, List.setIfInBounds_toArray, List.set_cons_zero, List.set_cons_succ]
    refine ext_step (i := 3) (oi := ?oil5a3) (by kernel_rfl) ?hil5a3 ?hwl5a3 (fun K hK => ?_)
    case hil5a3 => simp only [List.getElem?_toArray, List.getElem?_cons_zero, List.getElem?_cons_succ]; rfl
    case hwl5a3 => rfl
    go_simp
    refine (HBC.out _).mono ?_; rintro e wq ⟨rfl, rfl⟩; refine hK _ _ (Ext.refl _) ?_
    try simp only [Act.put, List.setIfInBounds_toArray, List.set_cons_zero, List.set_cons_succ]
    refine ext_take (i := 4) (oi := ?oil5a4) (v := ?vl5a4) ?hil5a4 (by kernel_rfl) (by kernel_rfl) (by kernel_rfl) hQ ?hwl5a4 ?hyl5a4 ?restl5a4
    case hil5a4 => simp only [List.getElem?_toArray, List.getElem?_cons_zero, List.getElem?_cons_succ]; rfl
    case hwl5a4 => rfl
    case hyl5a4 => intro W hW; go_simp; with_reducible rfl
    simp only [Act.put, List.setIfInBounds_toArray, List.set_cons_zero, List.set_cons_succ]
    refine ext_take (i := 5) (oi := ?oil5a5) (v := ?vl5a5) ?hil5a5 (by kernel_rfl) (by kernel_rfl) (by kernel_rfl) hQ ?hwl5a5 ?hyl5a5 ?restl5a5
    case hil5a5 => simp only [List.getElem?_toArray, List.getElem?_cons_zero, List.getElem?_cons_succ]; rfl
    case hwl5a5 => rfl
    case hyl5a5 => intro W hW; go_simp; with_reducible rfl
    simp only [Act.put, List.setIfInBounds_toArray, List.set_cons_zero, List.set_cons_succ]
    refine wpAnyH_done (by kernel_rfl) ?_ _
    simp only [NoP]
    clear X_hk_0 X_hk_1 X_hk_2 X_hk_3 X_hk_4 X_hk_5
    have z14 : x1.cell? ⟨w.heap.size, 0, none⟩ = some (.int .u8 (st : Int)) := (hk.cell 0).trans rfl
    have z15 := hk.frozen 0
    have z16 : x1.cell? ⟨w.heap.size, 1, none⟩ = some (.int .u64 (co : Int)) := (hk.cell 1).trans rfl
    have z17 := hk.frozen 1
    have z18 : x1.cell? ⟨w.heap.size, 2, none⟩ = some (.int .u64 (sp : Int)) := (hk.cell 2).trans rfl
    have z19 := hk.frozen 2
    have z20 : x1.cell? ⟨w.heap.size, 3, none⟩ = some (.int .u64 (df : Int)) := (hk.cell 3).trans rfl
    have z21 := hk.frozen 3
    have z22 : x1.cell? ⟨w.heap.size, 4, none⟩ = some (.int .u64 (pn : Int)) := (hk.cell 4).trans rfl
    have z23 := hk.frozen 4
    have z24 : x1.cell? ⟨w.heap.size, 5, none⟩ = some (.int .i64 ky) := (hk.cell 5).trans rfl
    have z25 := hk.frozen 5
    have z26 := hk.lt
    go_wp2_with fail
    clear z14 z15 z16 z17 z18 z19 z20 z21 z22 z23 z24 z25 z26
    refine nop_wp (ext_start (by kernel_rfl) calm_nop (fun hQ => ?_))
    replace hk : Blk x1.drew w.heap.size 94 #[.int .u8 (st : Int), .int .u64 (co : Int), .int .u64 (sp : Int), .int .u64 (df : Int), .int .u64 (pn : Int), .int .i64 ky] := (by repeat (first | with_reducible exact hk | with_reducible (apply Blk.set_) | with_reducible (apply Blk.far; case hp => (simp <;> omega)) | with_reducible (apply Blk.alloc) | with_reducible (apply Blk.drew)))
    replace hB : Below w.heap.size w x1.drew := Below.drew (by have hs_ := hB.size; repeat (first | with_reducible exact hB | with_reducible (refine Below.setCell ?_ (by simp <;> omega) _) | with_reducible (refine Below.alloc ?_ (by first | exact hs_ | (simp <;> omega)) _) | with_reducible (refine Below.drew ?_)))
    generalize x1.drew = x2 at *
    have X_hk_0 : ∀ W, Ext x2 W → W.cell? ⟨w.heap.size, 0, none⟩ = some (.int .u8 (st : Int)) := fun W h_ => ((hk.below h_ hk.lt).cell 0).trans rfl
    have X_hk_1 : ∀ W, Ext x2 W → W.cell? ⟨w.heap.size, 1, none⟩ = some (.int .u64 (co : Int)) := fun W h_ => ((hk.below h_ hk.lt).cell 1).trans rfl
    have X_hk_2 : ∀ W, Ext x2 W → W.cell? ⟨w.heap.size, 2, none⟩ = some (.int .u64 (sp : Int)) := fun W h_ => ((hk.below h_ hk.lt).cell 2).trans rfl
    have X_hk_3 : ∀ W, Ext x2 W → W.cell? ⟨w.heap.size, 3, none⟩ = some (.int .u64 (df : Int)) := fun W h_ => ((hk.below h_ hk.lt).cell 3).trans rfl
    have X_hk_4 : ∀ W, Ext x2 W → W.cell? ⟨w.heap.size, 4, none⟩ = some (.int .u64 (pn : Int)) := fun W h_ => ((hk.below h_ hk.lt).cell 4).trans rfl
    have X_hk_5 : ∀ W, Ext x2 W → W.cell? ⟨w.heap.size, 5, none⟩ = some (.int .i64 ky) := fun W h_ => ((hk.below h_ hk.lt).cell 5).trans rfl
    refine ext_take (i := 0) (oi := ?oil5b0) (v := ?vl5b0) ?hil5b0 (by kernel_rfl) (by kernel_rfl) (by kernel_rfl) hQ ?hwl5b0 ?hyl5b0 ?restl5b0
    case hil5b0 => simp only [List.getElem?_toArray, List.getElem?_cons_zero]; rfl
    case hwl5b0 => rfl
    case hyl5b0 => intro W hW; go_simp; with_reducible rfl
    simp only [Act.put, List.setIfInBounds_toArray, List.set_cons_zero, List.set_cons_succ]
    refine ext_take (i := 1) (oi := ?oil5b1) (v := ?vl5b1) ?hil5b1 (by kernel_rfl) (by kernel_rfl) (by kernel_rfl) hQ ?hwl5b1 ?hyl5b1 ?restl5b1
    case hil5b1 => simp only [List.getElem?_toArray, List.getElem?_cons_zero, List.getElem?_cons_succ]; rfl
    case hwl5b1 => rfl
    case hyl5b1 => intro W hW; go_simp; with_reducible rfl
    simp only [Act.put, List.setIfInBounds_toArray, List.set_cons_zero, List.set_cons_succ]
    refine ext_take (i := 2) (oi := ?oil5b2) (v := ?vl5b2) ?hil5b2 (by kernel_rfl) (by kernel_rfl) (by kernel_rfl) hQ ?hwl5b2 ?hyl5b2 ?restl5b2
    case hil5b2 => simp only [List.getElem?_toArray, List.getElem?_cons_zero, List.getElem?_cons_succ]; rfl
    case hwl5b2 => rfl
    case hyl5b2 => intro W hW; go_simp; with_reducible rfl
    simp only [Act.put, List.setIfInBounds_toArray, List.set_cons_zero, List.set_cons_succ]
    refine ext_step (i := 3) (oi := ?oil5b3) (by kernel_rfl) ?hil5b3 ?hwl5b3 (fun K hK => ?_)
    case hil5b3 => simp only [List.getElem?_toArray, List.getElem?_cons_zero, List.getElem?_cons_succ]; rfl
    case hwl5b3 => rfl
    go_simp
    refine (HBC.out _).mono ?_; rintro e wq ⟨rfl, rfl⟩; refine hK _ _ (Ext.refl _) ?_
    try simp only [Act.put, List.setIfInBounds_toArray, List.set_cons_zero, List.set_cons_succ]
    refine ext_take (i := 4) (oi := ?oil5b4) (v := ?vl5b4) ?hil5b4 (by kernel_rfl) (by kernel_rfl) (by kernel_rfl) hQ ?hwl5b4 ?hyl5b4 ?restl5b4
    case hil5b4 => simp only [List.getElem?_toArray, List.getElem?_cons_zero, List.getElem?_cons_succ]; rfl
    case hwl5b4 => rfl
    case hyl5b4 => intro W hW; go_simp; with_reducible rfl
    simp only [Act.put, List.setIfInBounds_toArray, List.set_cons_zero, List.set_cons_succ]
    refine ext_take (i := 5) (oi := ?oil5b5) (v := ?vl5b5) ?hil5b5 (by kernel_rfl) (by kernel_rfl) (by kernel_rfl) hQ ?hwl5b5 ?hyl5b5 ?restl5b5
    case hil5b5 => simp only [List.getElem?_toArray, List.getElem?_cons_zero, List.getElem?_cons_succ]; rfl
    case hwl5b5 => rfl
    case hyl5b5 => intro W hW; go_simp; with_reducible rfl
    simp only [Act.put, List.setIfInBounds_toArray, List.set_cons_zero, List.set_cons_succ]
    refine ext_take (i := 6) (oi := ?oil5b6) (v := ?vl5b6) ?hil5b6 (by kernel_rfl) (by kernel_rfl) (by kernel_rfl) hQ ?hwl5b6 ?hyl5b6 ?restl5b6
    case hil5b6 => simp only [List.getElem?_toArray, List.getElem?_cons_zero, List.getElem?_cons_succ]; rfl
    case hwl5b6 => rfl
    case hyl5b6 => intro W hW; go_simp; with_reducible rfl
    simp only [Act.put, List.setIfInBounds_toArray, List.set_cons_zero, List.set_cons_succ]
    refine ext_take (i := 7) (oi := ?oil5b7) (v := ?vl5b7) ?hil5b7 (by kernel_rfl) (by kernel_rfl) (by kernel_rfl) hQ ?hwl5b7 ?hyl5b7 ?restl5b7
    case hil5b7 => simp only [List.getElem?_toArray, List.getElem?_cons_zero, List.getElem?_cons_succ]; rfl
    case hwl5b7 => rfl
    case hyl5b7 => intro W hW; go_simp; with_reducible rfl
    simp only [Act.put, List.setIfInBounds_toArray, List.set_cons_zero, List.set_cons_succ]
    refine ext_take (i := 8) (oi := ?oil5b8) (v := ?vl5b8) ?hil5b8 (by kernel_rfl) (by kernel_rfl) (by kernel_rfl) hQ ?hwl5b8 ?hyl5b8 ?restl5b8
    case hil5b8 => simp only [List.getElem?_toArray, List.getElem?_cons_zero, List.getElem?_cons_succ]; rfl
    case hwl5b8 => rfl
    case hyl5b8 => intro W hW; go_simp; with_reducible rfl
    simp only [Act.put, List.setIfInBounds_toArray, List.set_cons_zero, List.set_cons_succ]
    refine ext_take (i := 9) (oi := ?oil5b9) (v := ?vl5b9) ?hil5b9 (by kernel_rfl) (by kernel_rfl) (by kernel_rfl) hQ ?hwl5b9 ?hyl5b9 ?restl5b9
    case hil5b9 => simp only [List.getElem?_toArray, List.getElem?_cons_zero, List.getElem?_cons_succ]; rfl
    case hwl5b9 => rfl
    case hyl5b9 => intro W hW; go_simp; with_reducible rfl
    simp only [Act.put, List.setIfInBounds_toArray, List.set_cons_zero, List.set_cons_succ]
    refine wpAnyH_done (by kernel_rfl) ?_ _
    simp only [NoP]
    clear X_hk_0 X_hk_1 X_hk_2 X_hk_3 X_hk_4 X_hk_5
    have z27 : x2.cell? ⟨w.heap.size, 0, none⟩ = some (.int .u8 (st : Int)) := (hk.cell 0).trans rfl
    have z28 := hk.frozen 0
    have z29 : x2.cell? ⟨w.heap.size, 1, none⟩ = some (.int .u64 (co : Int)) := (hk.cell 1).trans rfl
    have z30 := hk.frozen 1
    have z31 : x2.cell? ⟨w.heap.size, 2, none⟩ = some (.int .u64 (sp : Int)) := (hk.cell 2).trans rfl
    have z32 := hk.frozen 2
    have z33 : x2.cell? ⟨w.heap.size, 3, none⟩ = some (.int .u64 (df : Int)) := (hk.cell 3).trans rfl
    have z34 := hk.frozen 3
    have z35 : x2.cell? ⟨w.heap.size, 4, none⟩ = some (.int .u64 (pn : Int)) := (hk.cell 4).trans rfl
    have z36 := hk.frozen 4
    have z37 : x2.cell? ⟨w.heap.size, 5, none⟩ = some (.int .i64 ky) := (hk.cell 5).trans rfl
    have z38 := hk.frozen 5
    have z39 := hk.lt
    go_wp2_with fail
    go_ret
    exact ⟨by rw [HE.out]; rfl, (by have hs_ := hB.size; repeat (first | with_reducible exact hB | with_reducible (refine Below.setCell ?_ (by simp <;> omega) _) | with_reducible (refine Below.alloc ?_ (by first | exact hs_ | (simp <;> omega)) _) | with_reducible (refine Below.drew ?_)))⟩
  have d5 : ((m : Int) % 8 != 0) = false := by simp; omega
  have hmm := HM8.out
  by_cases h6 : st = 3
  · have d6 : ((st : Int) == 3) = true := by rw [beq_iff_eq]; omega
    have H6 := Lib.hid h6
    clear h6
    have hB : Below w.heap.size w (w.alloc (.cells #[.int .u8 (st : Int), .int .u64 (co : Int), .int .u64 (sp : Int), .int .u64 (df : Int), .int .u64 (pn : Int), .int .i64 ky] 94)) := (Below.alloc (Below.refl w.heap.size w) (by simp <;> omega) (.cells #[.int .u8 (st : Int), .int .u64 (co : Int), .int .u64 (sp : Int), .int .u64 (df : Int), .int .u64 (pn : Int), .int .i64 ky] 94))
    have hk := Blk.new w 94 #[.int .u8 (st : Int), .int .u64 (co : Int), .int .u64 (sp : Int), .int .u64 (df : Int), .int .u64 (pn : Int), .int .i64 ky]
    go_enter Try.func107, Try.ntmps107
    have z1 : (w.alloc (.cells #[.int .u8 (st : Int), .int .u64 (co : Int), .int .u64 (sp : Int), .int .u64 (df : Int), .int .u64 (pn : Int), .int .i64 ky] 94)).cell? ⟨w.heap.size, 0, none⟩ = some (.int .u8 (st : Int)) := (hk.cell 0).trans rfl
    have z2 := hk.frozen 0
    have z3 : (w.alloc (.cells #[.int .u8 (st : Int), .int .u64 (co : Int), .int .u64 (sp : Int), .int .u64 (df : Int), .int .u64 (pn : Int), .int .i64 ky] 94)).cell? ⟨w.heap.size, 1, none⟩ = some (.int .u64 (co : Int)) := (hk.cell 1).trans rfl
    have z4 := hk.frozen 1
    have z5 : (w.alloc (.cells #[.int .u8 (st : Int), .int .u64 (co : Int), .int .u64 (sp : Int), .int .u64 (df : Int), .int .u64 (pn : Int), .int .i64 ky] 94)).cell? ⟨w.heap.size, 2, none⟩ = some (.int .u64 (sp : Int)) := (hk.cell 2).trans rfl
    have z6 := hk.frozen 2
    have z7 : (w.alloc (.cells #[.int .u8 (st : Int), .int .u64 (co : Int), .int .u64 (sp : Int), .int .u64 (df : Int), .int .u64 (pn : Int), .int .i64 ky] 94)).cell? ⟨w.heap.size, 3, none⟩ = some (.int .u64 (df : Int)) := (hk.cell 3).trans rfl
    have z8 := hk.frozen 3
    have z9 : (w.alloc (.cells #[.int .u8 (st : Int), .int .u64 (co : Int), .int .u64 (sp : Int), .int .u64 (df : Int), .int .u64 (pn : Int), .int .i64 ky] 94)).cell? ⟨w.heap.size, 4, none⟩ = some (.int .u64 (pn : Int)) := (hk.cell 4).trans rfl
    have z10 := hk.frozen 4
    have z11 : (w.alloc (.cells #[.int .u8 (st : Int), .int .u64 (co : Int), .int .u64 (sp : Int), .int .u64 (df : Int), .int .u64 (pn : Int), .int .i64 ky] 94)).cell? ⟨w.heap.size, 5, none⟩ = some (.int .i64 ky) := (hk.cell 5).trans rfl
    have z12 := hk.frozen 5
    have z13 := hk.lt
    go_wp2_with fail
    clear z1 z2 z3 z4 z5 z6 z7 z8 z9 z10 z11 z12 z13
    refine nop_wp (ext_start (by kernel_rfl) calm_nop (fun hQ => ?_))
    replace hk : Blk (w.alloc (.cells #[.int .u8 (st : Int), .int .u64 (co : Int), .int .u64 (sp : Int), .int .u64 (df : Int), .int .u64 (pn : Int), .int .i64 ky] 94)).drew w.heap.size 94 #[.int .u8 (st : Int), .int .u64 (co : Int), .int .u64 (sp : Int), .int .u64 (df : Int), .int .u64 (pn : Int), .int .i64 ky] := (by repeat (first | with_reducible exact hk | with_reducible (apply Blk.set_) | with_reducible (apply Blk.far; case hp => (simp <;> omega)) | with_reducible (apply Blk.alloc) | with_reducible (apply Blk.drew)))
    replace hB : Below w.heap.size w (w.alloc (.cells #[.int .u8 (st : Int), .int .u64 (co : Int), .int .u64 (sp : Int), .int .u64 (df : Int), .int .u64 (pn : Int), .int .i64 ky] 94)).drew := Below.drew (by have hs_ := hB.size; repeat (first | with_reducible exact hB | with_reducible (refine Below.setCell ?_ (by simp <;> omega) _) | with_reducible (refine Below.alloc ?_ (by first | exact hs_ | (simp <;> omega)) _) | with_reducible (refine Below.drew ?_)))
    generalize (w.alloc (.cells #[.int .u8 (st : Int), .int .u64 (co : Int), .int .u64 (sp : Int), .int .u64 (df : Int), .int .u64 (pn : Int), .int .i64 ky] 94)).drew = x1 at *
    have X_hk_0 : ∀ W, Ext x1 W → W.cell? ⟨w.heap.size, 0, none⟩ = some (.int .u8 (st : Int)) := fun W h_ => ((hk.below h_ hk.lt).cell 0).trans rfl
    have X_hk_1 : ∀ W, Ext x1 W → W.cell? ⟨w.heap.size, 1, none⟩ = some (.int .u64 (co : Int)) := fun W h_ => ((hk.below h_ hk.lt).cell 1).trans rfl
    have X_hk_2 : ∀ W, Ext x1 W → W.cell? ⟨w.heap.size, 2, none⟩ = some (.int .u64 (sp : Int)) := fun W h_ => ((hk.below h_ hk.lt).cell 2).trans rfl
    have X_hk_3 : ∀ W, Ext x1 W → W.cell? ⟨w.heap.size, 3, none⟩ = some (.int .u64 (df : Int)) := fun W h_ => ((hk.below h_ hk.lt).cell 3).trans rfl
    have X_hk_4 : ∀ W, Ext x1 W → W.cell? ⟨w.heap.size, 4, none⟩ = some (.int .u64 (pn : Int)) := fun W h_ => ((hk.below h_ hk.lt).cell 4).trans rfl
    have X_hk_5 : ∀ W, Ext x1 W → W.cell? ⟨w.heap.size, 5, none⟩ = some (.int .i64 ky) := fun W h_ => ((hk.below h_ hk.lt).cell 5).trans rfl
    refine ext_take (i := 0) (oi := ?oil6a0) (v := ?vl6a0) ?hil6a0 (by kernel_rfl) (by kernel_rfl) (by kernel_rfl) hQ ?hwl6a0 ?hyl6a0 ?restl6a0
    case hil6a0 => simp only [List.getElem?_toArray, List.getElem?_cons_zero]; rfl
    case hwl6a0 => rfl
    case hyl6a0 => intro W hW; go_simp; with_reducible rfl
    simp only [Act.put, List.setIfInBounds_toArray, List.set_cons_zero, List.set_cons_succ]
    refine ext_take (i := 1) (oi := ?oil6a1) (v := ?vl6a1) ?hil6a1 (by kernel_rfl) (by kernel_rfl) (by kernel_rfl) hQ ?hwl6a1 ?hyl6a1 ?restl6a1
    case hil6a1 => simp only [List.getElem?_toArray, List.getElem?_cons_zero, List.getElem?_cons_succ]; rfl
    case hwl6a1 => rfl
    case hyl6a1 => intro W hW; go_simp; with_reducible rfl
    simp only [Act.put, List.setIfInBounds_toArray, List.set_cons_zero, List.set_cons_succ]
    refine ext_take (i := 2) (oi := ?oil6a2) (v := ?vl6a2) ?hil6a2 (by kernel_rfl) (by kernel_rfl) (by kernel_rfl) hQ ?hwl6a2 ?hyl6a2 ?restl6a2
    case hil6a2 => simp only [List.getElem?_toArray, List.getElem?_cons_zero, List.getElem?_cons_succ]; rfl
    case hwl6a2 => rfl
    case hyl6a2 => intro W hW; go_simp; with_reducible rfl
    simp only [Act.put, List.setIfInBounds_toArray, List.set_cons_zero, List.set_cons_succ]
    refine ext_step (i := 3) (oi := ?oil6a3) (by kernel_rfl) ?hil6a3 ?hwl6a3 (fun K hK => ?_)
    case hil6a3 => simp only [List.getElem?_toArray, List.getElem?_cons_zero, List.getElem?_cons_succ]; rfl
    case hwl6a3 => rfl
    go_simp
    refine (HBC.out _).mono ?_; rintro e wq ⟨rfl, rfl⟩; refine hK _ _ (Ext.refl _) ?_
    try simp only [Act.put, List.setIfInBounds_toArray, List.set_cons_zero, List.set_cons_succ]
    refine ext_take (i := 4) (oi := ?oil6a4) (v := ?vl6a4) ?hil6a4 (by kernel_rfl) (by kernel_rfl) (by kernel_rfl) hQ ?hwl6a4 ?hyl6a4 ?restl6a4
    case hil6a4 => simp only [List.getElem?_toArray, List.getElem?_cons_zero, List.getElem?_cons_succ]; rfl
    case hwl6a4 => rfl
    case hyl6a4 => intro W hW; go_simp; with_reducible rfl
    simp only [Act.put, List.setIfInBounds_toArray, List.set_cons_zero, List.set_cons_succ]
    refine ext_take (i := 5) (oi := ?oil6a5) (v := ?vl6a5) ?hil6a5 (by kernel_rfl) (by kernel_rfl) (by kernel_rfl) hQ ?hwl6a5 ?hyl6a5 ?restl6a5
    case hil6a5 => simp only [List.getElem?_toArray, List.getElem?_cons_zero, List.getElem?_cons_succ]; rfl
    case hwl6a5 => rfl
    case hyl6a5 => intro W hW; go_simp; with_reducible rfl
    simp only [Act.put, List.setIfInBounds_toArray, List.set_cons_zero, List.set_cons_succ]
    refine wpAnyH_done (by kernel_rfl) ?_ _
    simp only [NoP]
    clear X_hk_0 X_hk_1 X_hk_2 X_hk_3 X_hk_4 X_hk_5
    have z14 : x1.cell? ⟨w.heap.size, 0, none⟩ = some (.int .u8 (st : Int)) := (hk.cell 0).trans rfl
    have z15 := hk.frozen 0
    have z16 : x1.cell? ⟨w.heap.size, 1, none⟩ = some (.int .u64 (co : Int)) := (hk.cell 1).trans rfl
    have z17 := hk.frozen 1
    have z18 : x1.cell? ⟨w.heap.size, 2, none⟩ = some (.int .u64 (sp : Int)) := (hk.cell 2).trans rfl
    have z19 := hk.frozen 2
    have z20 : x1.cell? ⟨w.heap.size, 3, none⟩ = some (.int .u64 (df : Int)) := (hk.cell 3).trans rfl
    have z21 := hk.frozen 3
    have z22 : x1.cell? ⟨w.heap.size, 4, none⟩ = some (.int .u64 (pn : Int)) := (hk.cell 4).trans rfl
    have z23 := hk.frozen 4
    have z24 : x1.cell? ⟨w.heap.size, 5, none⟩ = some (.int .i64 ky) := (hk.cell 5).trans rfl
    have z25 := hk.frozen 5
    have z26 := hk.lt
    go_wp2_with fail
    clear z14 z15 z16 z17 z18 z19 z20 z21 z22 z23 z24 z25 z26
    refine nop_wp (ext_start (by kernel_rfl) calm_nop (fun hQ => ?_))
    replace hk : Blk x1.drew w.heap.size 94 #[.int .u8 (st : Int), .int .u64 (co : Int), .int .u64 (sp : Int), .int .u64 (df : Int), .int .u64 (pn : Int), .int .i64 ky] := (by repeat (first | with_reducible exact hk | with_reducible (apply Blk.set_) | with_reducible (apply Blk.far; case hp => (simp <;> omega)) | with_reducible (apply Blk.alloc) | with_reducible (apply Blk.drew)))
    replace hB : Below w.heap.size w x1.drew := Below.drew (by have hs_ := hB.size; repeat (first | with_reducible exact hB | with_reducible (refine Below.setCell ?_ (by simp <;> omega) _) | with_reducible (refine Below.alloc ?_ (by first | exact hs_ | (simp <;> omega)) _) | with_reducible (refine Below.drew ?_)))
    generalize x1.drew = x2 at *
    have X_hk_0 : ∀ W, Ext x2 W → W.cell? ⟨w.heap.size, 0, none⟩ = some (.int .u8 (st : Int)) := fun W h_ => ((hk.below h_ hk.lt).cell 0).trans rfl
    have X_hk_1 : ∀ W, Ext x2 W → W.cell? ⟨w.heap.size, 1, none⟩ = some (.int .u64 (co : Int)) := fun W h_ => ((hk.below h_ hk.lt).cell 1).trans rfl
    have X_hk_2 : ∀ W, Ext x2 W → W.cell? ⟨w.heap.size, 2, none⟩ = some (.int .u64 (sp : Int)) := fun W h_ => ((hk.below h_ hk.lt).cell 2).trans rfl
    have X_hk_3 : ∀ W, Ext x2 W → W.cell? ⟨w.heap.size, 3, none⟩ = some (.int .u64 (df : Int)) := fun W h_ => ((hk.below h_ hk.lt).cell 3).trans rfl
    have X_hk_4 : ∀ W, Ext x2 W → W.cell? ⟨w.heap.size, 4, none⟩ = some (.int .u64 (pn : Int)) := fun W h_ => ((hk.below h_ hk.lt).cell 4).trans rfl
    have X_hk_5 : ∀ W, Ext x2 W → W.cell? ⟨w.heap.size, 5, none⟩ = some (.int .i64 ky) := fun W h_ => ((hk.below h_ hk.lt).cell 5).trans rfl
    refine ext_take (i := 0) (oi := ?oil6b0) (v := ?vl6b0) ?hil6b0 (by kernel_rfl) (by kernel_rfl) (by kernel_rfl) hQ ?hwl6b0 ?hyl6b0 ?restl6b0
    case hil6b0 => simp only [List.getElem?_toArray, List.getElem?_cons_zero]; rfl
    case hwl6b0 => rfl
    case hyl6b0 => intro W hW; go_simp; with_reducible rfl
    simp only [Act.put, List.setIfInBounds_toArray, List.set_cons_zero, List.set_cons_succ]
    refine ext_take (i := 1) (oi := ?oil6b1) (v := ?vl6b1) ?hil6b1 (by kernel_rfl) (by kernel_rfl) (by kernel_rfl) hQ ?hwl6b1 ?hyl6b1 ?restl6b1
    case hil6b1 => simp only [List.getElem?_toArray, List.getElem?_cons_zero, List.getElem?_cons_succ]; rfl
    case hwl6b1 => rfl
    case hyl6b1 => intro W hW; go_simp; with_reducible rfl
    simp only [Act.put, List.setIfInBounds_toArray, List.set_cons_zero, List.set_cons_succ]
    refine ext_take (i := 2) (oi := ?oil6b2) (v := ?vl6b2) ?hil6b2 (by kernel_rfl) (by kernel_rfl) (by kernel_rfl) hQ ?hwl6b2 ?hyl6b2 ?restl6b2
    case hil6b2 => simp only [List.getElem?_toArray, List.getElem?_cons_zero, List.getElem?_cons_succ]; rfl
    case hwl6b2 => rfl
    case hyl6b2 => intro W hW; go_simp; with_reducible rfl
    simp only [Act.put, List.setIfInBounds_toArray, List.set_cons_zero, List.set_cons_succ]
    refine ext_step (i := 3) (oi := ?oil6b3) (by kernel_rfl) ?hil6b3 ?hwl6b3 (fun K hK => ?_)
    case hil6b3 => simp only [List.getElem?_toArray, List.getElem?_cons_zero, List.getElem?_cons_succ]; rfl
    case hwl6b3 => rfl
    go_simp
    refine (HBC.out _).mono ?_; rintro e wq ⟨rfl, rfl⟩; refine hK _ _ (Ext.refl _) ?_
    try simp only [Act.put, List.setIfInBounds_toArray, List.set_cons_zero, List.set_cons_succ]
    refine ext_take (i := 4) (oi := ?oil6b4) (v := ?vl6b4) ?hil6b4 (by kernel_rfl) (by kernel_rfl) (by kernel_rfl) hQ ?hwl6b4 ?hyl6b4 ?restl6b4
    case hil6b4 => simp only [List.getElem?_toArray, List.getElem?_cons_zero, List.getElem?_cons_succ]; rfl
    case hwl6b4 => rfl
    case hyl6b4 => intro W hW; go_simp; with_reducible rfl
    simp only [Act.put, List.setIfInBounds_toArray, List.set_cons_zero, List.set_cons_succ]
    refine ext_take (i := 5) (oi := ?oil6b5) (v := ?vl6b5) ?hil6b5 (by kernel_rfl) (by kernel_rfl) (by kernel_rfl) hQ ?hwl6b5 ?hyl6b5 ?restl6b5
    case hil6b5 => simp only [List.getElem?_toArray, List.getElem?_cons_zero, List.getElem?_cons_succ]; rfl
    case hwl6b5 => rfl
    case hyl6b5 => intro W hW; go_simp; with_reducible rfl
    simp only [Act.put, List.setIfInBounds_toArray, List.set_cons_zero, List.set_cons_succ]
    refine ext_take (i := 6) (oi := ?oil6b6) (v := ?vl6b6) ?hil6b6 (by kernel_rfl) (by kernel_rfl) (by kernel_rfl) hQ ?hwl6b6 ?hyl6b6 ?restl6b6
    case hil6b6 => simp only [List.getElem?_toArray, List.getElem?_cons_zero, List.getElem?_cons_succ]; rfl
    case hwl6b6 => rfl
    case hyl6b6 => intro W hW; go_simp; with_reducible rfl
    simp only [Act.put, List.setIfInBounds_toArray, List.set_cons_zero, List.set_cons_succ]
    refine ext_take (i := 7) (oi := ?oil6b7) (v := ?vl6b7) ?hil6b7 (by kernel_rfl) (by kernel_rfl) (by kernel_rfl) hQ ?hwl6b7 ?hyl6b7 ?restl6b7
    case hil6b7 => simp only [List.getElem?_toArray, List.getElem?_cons_zero, List.getElem?_cons_succ]; rfl
    case hwl6b7 => rfl
    case hyl6b7 => intro W hW; go_simp; with_reducible rfl
    simp only [Act.put, List.setIfInBounds_toArray, List.set_cons_zero, List.set_cons_succ]
    refine ext_take (i := 8) (oi := ?oil6b8) (v := ?vl6b8) ?hil6b8 (by kernel_rfl) (by kernel_rfl) (by kernel_rfl) hQ ?hwl6b8 ?hyl6b8 ?restl6b8
    case hil6b8 => simp only [List.getElem?_toArray, List.getElem?_cons_zero, List.getElem?_cons_succ]; rfl
    case hwl6b8 => rfl
    case hyl6b8 => intro W hW; go_simp; with_reducible rfl
    simp only [Act.put, List.setIfInBounds_toArray, List.set_cons_zero, List.set_cons_succ]
    refine ext_take (i := 9) (oi := ?oil6b9) (v := ?vl6b9) ?hil6b9 (by kernel_rfl) (by kernel_rfl) (by kernel_rfl) hQ ?hwl6b9 ?hyl6b9 ?restl6b9
    case hil6b9 => simp only [List.getElem?_toArray, List.getElem?_cons_zero, List.getElem?_cons_succ]; rfl
    case hwl6b9 => rfl
    case hyl6b9 => intro W hW; go_simp; with_reducible rfl
    simp only [Act.put, List.setIfInBounds_toArray, List.set_cons_zero, List.set_cons_succ]
    refine wpAnyH_done (by kernel_rfl) ?_ _
    simp only [NoP]
    clear X_hk_0 X_hk_1 X_hk_2 X_hk_3 X_hk_4 X_hk_5
    have z27 : x2.cell? ⟨w.heap.size, 0, none⟩ = some (.int .u8 (st : Int)) := (hk.cell 0).trans rfl
    have z28 := hk.frozen 0
    have z29 : x2.cell? ⟨w.heap.size, 1, none⟩ = some (.int .u64 (co : Int)) := (hk.cell 1).trans rfl
    have z30 := hk.frozen 1
    have z31 : x2.cell? ⟨w.heap.size, 2, none⟩ = some (.int .u64 (sp : Int)) := (hk.cell 2).trans rfl
    have z32 := hk.frozen 2
    have z33 : x2.cell? ⟨w.heap.size, 3, none⟩ = some (.int .u64 (df : Int)) := (hk.cell 3).trans rfl
    have z34 := hk.frozen 3
    have z35 : x2.cell? ⟨w.heap.size, 4, none⟩ = some (.int .u64 (pn : Int)) := (hk.cell 4).trans rfl
    have z36 := hk.frozen 4
    have z37 : x2.cell? ⟨w.heap.size, 5, none⟩ = some (.int .i64 ky) := (hk.cell 5).trans rfl
    have z38 := hk.frozen 5
    have z39 := hk.lt
    go_wp2_with fail
    have hmm := HM8.out
    by_cases e1 : co = 0
    rotate_left
    · clear z27 z28 z29 z30 z31 z32 z33 z34 z35 z36 z37 z38 z39
      refine nop_wp (ext_start (by kernel_rfl) calm_nop (fun hQ => ?_))
      replace hk : Blk x2.drew w.heap.size 94 #[.int .u8 (st : Int), .int .u64 (co : Int), .int .u64 (sp : Int), .int .u64 (df : Int), .int .u64 (pn : Int), .int .i64 ky] := (by repeat (first | with_reducible exact hk | with_reducible (apply Blk.set_) | with_reducible (apply Blk.far; case hp => (simp <;> omega)) | with_reducible (apply Blk.alloc) | with_reducible (apply Blk.drew)))
      replace hB : Below w.heap.size w x2.drew := Below.drew (by have hs_ := hB.size; repeat (first | with_reducible exact hB | with_reducible (refine Below.setCell ?_ (by simp <;> omega) _) | with_reducible (refine Below.alloc ?_ (by first | exact hs_ | (simp <;> omega)) _) | with_reducible (refine Below.drew ?_)))
      generalize x2.drew = x3 at *
      have X_hk_0 : ∀ W, Ext x3 W → W.cell? ⟨w.heap.size, 0, none⟩ = some (.int .u8 (st : Int)) := fun W h_ => ((hk.below h_ hk.lt).cell 0).trans rfl
      have X_hk_1 : ∀ W, Ext x3 W → W.cell? ⟨w.heap.size, 1, none⟩ = some (.int .u64 (co : Int)) := fun W h_ => ((hk.below h_ hk.lt).cell 1).trans rfl
      have X_hk_2 : ∀ W, Ext x3 W → W.cell? ⟨w.heap.size, 2, none⟩ = some (.int .u64 (sp : Int)) := fun W h_ => ((hk.below h_ hk.lt).cell 2).trans rfl
      have X_hk_3 : ∀ W, Ext x3 W → W.cell? ⟨w.heap.size, 3, none⟩ = some (.int .u64 (df : Int)) := fun W h_ => ((hk.below h_ hk.lt).cell 3).trans rfl
      have X_hk_4 : ∀ W, Ext x3 W → W.cell? ⟨w.heap.size, 4, none⟩ = some (.int .u64 (pn : Int)) := fun W h_ => ((hk.below h_ hk.lt).cell 4).trans rfl
      have X_hk_5 : ∀ W, Ext x3 W → W.cell? ⟨w.heap.size, 5, none⟩ = some (.int .i64 ky) := fun W h_ => ((hk.below h_ hk.lt).cell 5).trans rfl
      refine ext_take (i := 0) (oi := ?oil7c0) (v := ?vl7c0) ?hil7c0 (by kernel_rfl) (by kernel_rfl) (by kernel_rfl) hQ ?hwl7c0 ?hyl7c0 ?restl7c0
      case hil7c0 => simp only [List.getElem?_toArray, List.getElem?_cons_zero]; rfl
      case hwl7c0 => rfl
      case hyl7c0 => intro W hW; go_simp; with_reducible rfl
      simp only [Act.put, List.setIfInBounds_toArray, List.set_cons_zero, List.set_cons_succ]
      refine ext_take (i := 1) (oi := ?oil7c1) (v := ?vl7c1) ?hil7c1 (by kernel_rfl) (by kernel_rfl) (by kernel_rfl) hQ ?hwl7c1 ?hyl7c1 ?restl7c1
      case hil7c1 => simp only [List.getElem?_toArray, List.getElem?_cons_zero, List.getElem?_cons_succ]; rfl
      case hwl7c1 => rfl
      case hyl7c1 => intro W hW; go_simp; with_reducible rfl
      simp only [Act.put, List.setIfInBounds_toArray, List.set_cons_zero, List.set_cons_succ]
      refine ext_step (i := 2) (oi := ?oil7c2) (by kernel_rfl) ?hil7c2 ?hwl7c2 (fun K hK => ?_)
      case hil7c2 => simp only [List.getElem?_toArray, List.getElem?_cons_zero, List.getElem?_cons_succ]; rfl
      case hwl7c2 => rfl
      go_simp
      refine (HBC.out _).mono ?_; rintro e wq ⟨rfl, rfl⟩; refine hK _ _ (Ext.refl _) ?_
      try simp only [Act.put, List.setIfInBounds_toArray, List.set_cons_zero, List.set_cons_succ]
      refine ext_take (i := 3) (oi := ?oil7c3) (v := ?vl7c3) ?hil7c3 (by kernel_rfl) (by kernel_rfl) (by kernel_rfl) hQ ?hwl7c3 ?hyl7c3 ?restl7c3
      case hil7c3 => simp only [List.getElem?_toArray, List.getElem?_cons_zero, List.getElem?_cons_succ]; rfl
      case hwl7c3 => rfl
      case hyl7c3 => intro W hW; go_simp; with_reducible rfl
      simp only [Act.put, List.setIfInBounds_toArray, List.set_cons_zero, List.set_cons_succ]
      refine ext_take (i := 4) (oi := ?oil7c4) (v := ?vl7c4) ?hil7c4 (by kernel_rfl) (by kernel_rfl) (by kernel_rfl) hQ ?hwl7c4 ?hyl7c4 ?restl7c4
      case hil7c4 => simp only [List.getElem?_toArray, List.getElem?_cons_zero, List.getElem?_cons_succ]; rfl
      case hwl7c4 => rfl
      case hyl7c4 => intro W hW; go_simp; with_reducible rfl
      simp only [Act.put, List.setIfInBounds_toArray, List.set_cons_zero, List.set_cons_succ]
      refine ext_take (i := 5) (oi := ?oil7c5) (v := ?vl7c5) ?hil7c5 (by kernel_rfl) (by kernel_rfl) (by kernel_rfl) hQ ?hwl7c5 ?hyl7c5 ?restl7c5
      case hil7c5 => simp only [List.getElem?_toArray, List.getElem?_cons_zero, List.getElem?_cons_succ]; rfl
      case hwl7c5 => rfl
      case hyl7c5 => intro W hW; go_simp; with_reducible rfl
      simp only [Act.put, List.setIfInBounds_toArray, List.set_cons_zero, List.set_cons_succ]
      refine wpAnyH_done (by kernel_rfl) ?_ _
      simp only [NoP]
      clear X_hk_0 X_hk_1 X_hk_2 X_hk_3 X_hk_4 X_hk_5
      have HE := Lib.hid (show hdB g st co sp df pn ky = false from by unfold hdB; rw [← Bool.not_eq_true]; simp only [Bool.and_eq_true, decide_eq_true_eq]; rw [hbs]; have h6 := H6.out; first | omega | (simp only [H6.out, if_true, decide_eq_true_eq]; omega))
      have z40 : x3.cell? ⟨w.heap.size, 0, none⟩ = some (.int .u8 (st : Int)) := (hk.cell 0).trans rfl
      have z41 := hk.frozen 0
      have z42 : x3.cell? ⟨w.heap.size, 1, none⟩ = some (.int .u64 (co : Int)) := (hk.cell 1).trans rfl
      have z43 := hk.frozen 1
      have z44 : x3.cell? ⟨w.heap.size, 2, none⟩ = some (.int .u64 (sp : Int)) := (hk.cell 2).trans rfl
      have z45 := hk.frozen 2
      have z46 : x3.cell? ⟨w.heap.size, 3, none⟩ = some (.int .u64 (df : Int)) := (hk.cell 3).trans rfl
      have z47 := hk.frozen 3
      have z48 : x3.cell? ⟨w.heap.size, 4, none⟩ = some (.int .u64 (pn : Int)) := (hk.cell 4).trans rfl
      have z49 := hk.frozen 4
      have z50 : x3.cell? ⟨w.heap.size, 5, none⟩ = some (.int .i64 ky) := (hk.cell 5).trans rfl
      have z51 := hk.frozen 5
      have z52 := hk.lt
      go_wp2_with fail
      go_ret
      exact ⟨by rw [HE.out]; rfl, (by have hs_ := hB.size; repeat (first | with_reducible exact hB | with_reducible (refine Below.setCell ?_ (by simp <;> omega) _) | with_reducible (refine Below.alloc ?_ (by first | exact hs_ | (simp <;> omega)) _) | with_reducible (refine Below.drew ?_)))⟩
    by_cases e2 : (sp : Int) = (bs : Int)
    rotate_left
    · clear z27 z28 z29 z30 z31 z32 z33 z34 z35 z36 z37 z38 z39
      refine nop_wp (ext_start (by kernel_rfl) calm_nop (fun hQ => ?_))
      replace hk : Blk x2.drew w.heap.size 94 #[.int .u8 (st : Int), .int .u64 (co : Int), .int .u64 (sp : Int), .int .u64 (df : Int), .int .u64 (pn : Int), .int .i64 ky] := (by repeat (first | with_reducible exact hk | with_reducible (apply Blk.set_) | with_reducible (apply Blk.far; case hp => (simp <;> omega)) | with_reducible (apply Blk.alloc) | with_reducible (apply Blk.drew)))
      replace hB : Below w.heap.size w x2.drew := Below.drew (by have hs_ := hB.size; repeat (first | with_reducible exact hB | with_reducible (refine Below.setCell ?_ (by simp <;> omega) _) | with_reducible (refine Below.alloc ?_ (by first | exact hs_ | (simp <;> omega)) _) | with_reducible (refine Below.drew ?_)))
      generalize x2.drew = x3 at *
      have X_hk_0 : ∀ W, Ext x3 W → W.cell? ⟨w.heap.size, 0, none⟩ = some (.int .u8 (st : Int)) := fun W h_ => ((hk.below h_ hk.lt).cell 0).trans rfl
      have X_hk_1 : ∀ W, Ext x3 W → W.cell? ⟨w.heap.size, 1, none⟩ = some (.int .u64 (co : Int)) := fun W h_ => ((hk.below h_ hk.lt).cell 1).trans rfl
      have X_hk_2 : ∀ W, Ext x3 W → W.cell? ⟨w.heap.size, 2, none⟩ = some (.int .u64 (sp : Int)) := fun W h_ => ((hk.below h_ hk.lt).cell 2).trans rfl
      have X_hk_3 : ∀ W, Ext x3 W → W.cell? ⟨w.heap.size, 3, none⟩ = some (.int .u64 (df : Int)) := fun W h_ => ((hk.below h_ hk.lt).cell 3).trans rfl
      have X_hk_4 : ∀ W, Ext x3 W → W.cell? ⟨w.heap.size, 4, none⟩ = some (.int .u64 (pn : Int)) := fun W h_ => ((hk.below h_ hk.lt).cell 4).trans rfl
      have X_hk_5 : ∀ W, Ext x3 W → W.cell? ⟨w.heap.size, 5, none⟩ = some (.int .i64 ky) := fun W h_ => ((hk.below h_ hk.lt).cell 5).trans rfl
      refine ext_take (i := 0) (oi := ?oil8c0) (v := ?vl8c0) ?hil8c0 (by kernel_rfl) (by kernel_rfl) (by kernel_rfl) hQ ?hwl8c0 ?hyl8c0 ?restl8c0
      case hil8c0 => simp only [List.getElem?_toArray, List.getElem?_cons_zero]; rfl
      case hwl8c0 => rfl
      case hyl8c0 => intro W hW; go_simp; with_reducible rfl
      simp only [Act.put, List.setIfInBounds_toArray, List.set_cons_zero, List.set_cons_succ]
      refine ext_take (i := 1) (oi := ?oil8c1) (v := ?vl8c1) ?hil8c1 (by kernel_rfl) (by kernel_rfl) (by kernel_rfl) hQ ?hwl8c1 ?hyl8c1 ?restl8c1
      case hil8c1 => simp only [List.getElem?_toArray, List.getElem?_cons_zero, List.getElem?_cons_succ]; rfl
      case hwl8c1 => rfl
      case hyl8c1 => intro W hW; go_simp; with_reducible rfl
      simp only [Act.put, List.setIfInBounds_toArray, List.set_cons_zero, List.set_cons_succ]
      refine ext_step (i := 2) (oi := ?oil8c2) (by kernel_rfl) ?hil8c2 ?hwl8c2 (fun K hK => ?_)
      case hil8c2 => simp only [List.getElem?_toArray, List.getElem?_cons_zero, List.getElem?_cons_succ]; rfl
      case hwl8c2 => rfl
      go_simp
      refine (HBC.out _).mono ?_; rintro e wq ⟨rfl, rfl⟩; refine hK _ _ (Ext.refl _) ?_
      try simp only [Act.put, List.setIfInBounds_toArray, List.set_cons_zero, List.set_cons_succ]
      refine ext_take (i := 3) (oi := ?oil8c3) (v := ?vl8c3) ?hil8c3 (by kernel_rfl) (by kernel_rfl) (by kernel_rfl) hQ ?hwl8c3 ?hyl8c3 ?restl8c3
      case hil8c3 => simp only [List.getElem?_toArray, List.getElem?_cons_zero, List.getElem?_cons_succ]; rfl
      case hwl8c3 => rfl
      case hyl8c3 => intro W hW; go_simp; with_reducible rfl
      simp only [Act.put, List.setIfInBounds_toArray, List.set_cons_zero, List.set_cons_succ]
      refine ext_take (i := 4) (oi := ?oil8c4) (v := ?vl8c4) ?hil8c4 (by kernel_rfl) (by kernel_rfl) (by kernel_rfl) hQ ?hwl8c4 ?hyl8c4 ?restl8c4
      case hil8c4 => simp only [List.getElem?_toArray, List.getElem?_cons_zero, List.getElem?_cons_succ]; rfl
      case hwl8c4 => rfl
      case hyl8c4 => intro W hW; go_simp; with_reducible rfl
      simp only [Act.put, List.setIfInBounds_toArray, List.set_cons_zero, List.set_cons_succ]
      refine ext_take (i := 5) (oi := ?oil8c5) (v := ?vl8c5) ?hil8c5 (by kernel_rfl) (by kernel_rfl) (by kernel_rfl) hQ ?hwl8c5 ?hyl8c5 ?restl8c5
      case hil8c5 => simp only [List.getElem?_toArray, List.getElem?_cons_zero, List.getElem?_cons_succ]; rfl
      case hwl8c5 => rfl
      case hyl8c5 => intro W hW; go_simp; with_reducible rfl
      simp only [Act.put, List.setIfInBounds_toArray, List.set_cons_zero, List.set_cons_succ]
      refine wpAnyH_done (by kernel_rfl) ?_ _
      simp only [NoP]
      clear X_hk_0 X_hk_1 X_hk_2 X_hk_3 X_hk_4 X_hk_5
      have HE := Lib.hid (show hdB g st co sp df pn ky = false from by unfold hdB; rw [← Bool.not_eq_true]; simp only [Bool.and_eq_true, decide_eq_true_eq]; rw [hbs]; have h6 := H6.out; first | omega | (simp only [H6.out, if_true, decide_eq_true_eq]; omega))
      have z40 : x3.cell? ⟨w.heap.size, 0, none⟩ = some (.int .u8 (st : Int)) := (hk.cell 0).trans rfl
      have z41 := hk.frozen 0
      have z42 : x3.cell? ⟨w.heap.size, 1, none⟩ = some (.int .u64 (co : Int)) := (hk.cell 1).trans rfl
      have z43 := hk.frozen 1
      have z44 : x3.cell? ⟨w.heap.size, 2, none⟩ = some (.int .u64 (sp : Int)) := (hk.cell 2).trans rfl
      have z45 := hk.frozen 2
      have z46 : x3.cell? ⟨w.heap.size, 3, none⟩ = some (.int .u64 (df : Int)) := (hk.cell 3).trans rfl
      have z47 := hk.frozen 3
      have z48 : x3.cell? ⟨w.heap.size, 4, none⟩ = some (.int .u64 (pn : Int)) := (hk.cell 4).trans rfl
      have z49 := hk.frozen 4
      have z50 : x3.cell? ⟨w.heap.size, 5, none⟩ = some (.int .i64 ky) := (hk.cell 5).trans rfl
      have z51 := hk.frozen 5
      have z52 := hk.lt
      go_wp2_with fail
      go_ret
      exact ⟨by rw [HE.out]; rfl, (by have hs_ := hB.size; repeat (first | with_reducible exact hB | with_reducible (refine Below.setCell ?_ (by simp <;> omega) _) | with_reducible (refine Below.alloc ?_ (by first | exact hs_ | (simp <;> omega)) _) | with_reducible (refine Below.drew ?_)))⟩
    by_cases e3 : df = 0
    rotate_left
    · clear z27 z28 z29 z30 z31 z32 z33 z34 z35 z36 z37 z38 z39
      refine nop_wp (ext_start (by kernel_rfl) calm_nop (fun hQ => ?_))
      replace hk : Blk x2.drew w.heap.size 94 #[.int .u8 (st : Int), .int .u64 (co : Int), .int .u64 (sp : Int), .int .u64 (df : Int), .int .u64 (pn : Int), .int .i64 ky] := (by repeat (first | with_reducible exact hk | with_reducible (apply Blk.set_) | with_reducible (apply Blk.far; case hp => (simp <;> omega)) | with_reducible (apply Blk.alloc) | with_reducible (apply Blk.drew)))
      replace hB : Below w.heap.size w x2.drew := Below.drew (by have hs_ := hB.size; repeat (first | with_reducible exact hB | with_reducible (refine Below.setCell ?_ (by simp <;> omega) _) | with_reducible (refine Below.alloc ?_ (by first | exact hs_ | (simp <;> omega)) _) | with_reducible (refine Below.drew ?_)))
      generalize x2.drew = x3 at *
      have X_hk_0 : ∀ W, Ext x3 W → W.cell? ⟨w.heap.size, 0, none⟩ = some (.int .u8 (st : Int)) := fun W h_ => ((hk.below h_ hk.lt).cell 0).trans rfl
      have X_hk_1 : ∀ W, Ext x3 W → W.cell? ⟨w.heap.size, 1, none⟩ = some (.int .u64 (co : Int)) := fun W h_ => ((hk.below h_ hk.lt).cell 1).trans rfl
      have X_hk_2 : ∀ W, Ext x3 W → W.cell? ⟨w.heap.size, 2, none⟩ = some (.int .u64 (sp : Int)) := fun W h_ => ((hk.below h_ hk.lt).cell 2).trans rfl
      have X_hk_3 : ∀ W, Ext x3 W → W.cell? ⟨w.heap.size, 3, none⟩ = some (.int .u64 (df : Int)) := fun W h_ => ((hk.below h_ hk.lt).cell 3).trans rfl
      have X_hk_4 : ∀ W, Ext x3 W → W.cell? ⟨w.heap.size, 4, none⟩ = some (.int .u64 (pn : Int)) := fun W h_ => ((hk.below h_ hk.lt).cell 4).trans rfl
      have X_hk_5 : ∀ W, Ext x3 W → W.cell? ⟨w.heap.size, 5, none⟩ = some (.int .i64 ky) := fun W h_ => ((hk.below h_ hk.lt).cell 5).trans rfl
      refine ext_take (i := 0) (oi := ?oil9c0) (v := ?vl9c0) ?hil9c0 (by kernel_rfl) (by kernel_rfl) (by kernel_rfl) hQ ?hwl9c0 ?hyl9c0 ?restl9c0
      case hil9c0 => simp only [List.getElem?_toArray, List.getElem?_cons_zero]; rfl
      case hwl9c0 => rfl
      case hyl9c0 => intro W hW; go_simp; with_reducible rfl
      simp only [Act.put, List.setIfInBounds_toArray, List.set_cons_zero, List.set_cons_succ]
      refine ext_take (i := 1) (oi := ?oil9c1) (v := ?vl9c1) ?hil9c1 (by kernel_rfl) (by kernel_rfl) (by kernel_rfl) hQ ?hwl9c1 ?hyl9c1 ?restl9c1
      case hil9c1 => simp only [List.getElem?_toArray, List.getElem?_cons_zero, List.getElem?_cons_succ]; rfl
      case hwl9c1 => rfl
      case hyl9c1 => intro W hW; go_simp; with_reducible rfl
      simp only [Act.put, List.setIfInBounds_toArray, List.set_cons_zero, List.set_cons_succ]
      refine ext_step (i := 2) (oi := ?oil9c2) (by kernel_rfl) ?hil9c2 ?hwl9c2 (fun K hK => ?_)
      case hil9c2 => simp only [List.getElem?_toArray, List.getElem?_cons_zero, List.getElem?_cons_succ]; rfl
      case hwl9c2 => rfl
      go_simp
      refine (HBC.out _).mono ?_; rintro e wq ⟨rfl, rfl⟩; refine hK _ _ (Ext.refl _) ?_
      try simp only [Act.put, List.setIfInBounds_toArray, List.set_cons_zero, List.set_cons_succ]
      refine ext_take (i := 3) (oi := ?oil9c3) (v := ?vl9c3) ?hil9c3 (by kernel_rfl) (by kernel_rfl) (by kernel_rfl) hQ ?hwl9c3 ?hyl9c3 ?restl9c3
      case hil9c3 => simp only [List.getElem?_toArray, List.getElem?_cons_zero, List.getElem?_cons_succ]; rfl
      case hwl9c3 => rfl
      case hyl9c3 => intro W hW; go_simp; with_reducible rfl
      simp only [Act.put, List.setIfInBounds_toArray, List.set_cons_zero, List.set_cons_succ]
      refine ext_take (i := 4) (oi := ?oil9c4) (v := ?vl9c4) ?hil9c4 (by kernel_rfl) (by kernel_rfl) (by kernel_rfl) hQ ?hwl9c4 ?hyl9c4 ?restl9c4
      case hil9c4 => simp only [List.getElem?_toArray, List.getElem?_cons_zero, List.getElem?_cons_succ]; rfl
      case hwl9c4 => rfl
      case hyl9c4 => intro W hW; go_simp; with_reducible rfl
      simp only [Act.put, List.setIfInBounds_toArray, List.set_cons_zero, List.set_cons_succ]
      refine ext_take (i := 5) (oi := ?oil9c5) (v := ?vl9c5) ?hil9c5 (by kernel_rfl) (by kernel_rfl) (by kernel_rfl) hQ ?hwl9c5 ?hyl9c5 ?restl9c5
      case hil9c5 => simp only [List.getElem?_toArray, List.getElem?_cons_zero, List.getElem?_cons_succ]; rfl
      case hwl9c5 => rfl
      case hyl9c5 => intro W hW; go_simp; with_reducible rfl
      simp only [Act.put, List.setIfInBounds_toArray, List.set_cons_zero, List.set_cons_succ]
      refine wpAnyH_done (by kernel_rfl) ?_ _
      simp only [NoP]
      clear X_hk_0 X_hk_1 X_hk_2 X_hk_3 X_hk_4 X_hk_5
      have HE := Lib.hid (show hdB g st co sp df pn ky = false from by unfold hdB; rw [← Bool.not_eq_true]; simp only [Bool.and_eq_true, decide_eq_true_eq]; rw [hbs]; have h6 := H6.out; first | omega | (simp only [H6.out, if_true, decide_eq_true_eq]; omega))
      have z40 : x3.cell? ⟨w.heap.size, 0, none⟩ = some (.int .u8 (st : Int)) := (hk.cell 0).trans rfl
      have z41 := hk.frozen 0
      have z42 : x3.cell? ⟨w.heap.size, 1, none⟩ = some (.int .u64 (co : Int)) := (hk.cell 1).trans rfl
      have z43 := hk.frozen 1
      have z44 : x3.cell? ⟨w.heap.size, 2, none⟩ = some (.int .u64 (sp : Int)) := (hk.cell 2).trans rfl
      have z45 := hk.frozen 2
      have z46 : x3.cell? ⟨w.heap.size, 3, none⟩ = some (.int .u64 (df : Int)) := (hk.cell 3).trans rfl
      have z47 := hk.frozen 3
      have z48 : x3.cell? ⟨w.heap.size, 4, none⟩ = some (.int .u64 (pn : Int)) := (hk.cell 4).trans rfl
      have z49 := hk.frozen 4
      have z50 : x3.cell? ⟨w.heap.size, 5, none⟩ = some (.int .i64 ky) := (hk.cell 5).trans rfl
      have z51 := hk.frozen 5
      have z52 := hk.lt
      go_wp2_with fail
      go_ret
      exact ⟨by rw [HE.out]; rfl, (by have hs_ := hB.size; repeat (first | with_reducible exact hB | with_reducible (refine Below.setCell ?_ (by simp <;> omega) _) | with_reducible (refine Below.alloc ?_ (by first | exact hs_ | (simp <;> omega)) _) | with_reducible (refine Below.drew ?_)))⟩
    by_cases e4 : pn = 0
    rotate_left
    · clear z27 z28 z29 z30 z31 z32 z33 z34 z35 z36 z37 z38 z39
      refine nop_wp (ext_start (by kernel_rfl) calm_nop (fun hQ => ?_))
      replace hk : Blk x2.drew w.heap.size 94 #[.int .u8 (st : Int), .int .u64 (co : Int), .int .u64 (sp : Int), .int .u64 (df : Int), .int .u64 (pn : Int), .int .i64 ky] := (by repeat (first | with_reducible exact hk | with_reducible (apply Blk.set_) | with_reducible (apply Blk.far; case hp => (simp <;> omega)) | with_reducible (apply Blk.alloc) | with_reducible (apply Blk.drew)))
      replace hB : Below w.heap.size w x2.drew := Below.drew (by have hs_ := hB.size; repeat (first | with_reducible exact hB | with_reducible (refine Below.setCell ?_ (by simp <;> omega) _) | with_reducible (refine Below.alloc ?_ (by first | exact hs_ | (simp <;> omega)) _) | with_reducible (refine Below.drew ?_)))
      generalize x2.drew = x3 at *
      have X_hk_0 : ∀ W, Ext x3 W → W.cell? ⟨w.heap.size, 0, none⟩ = some (.int .u8 (st : Int)) := fun W h_ => ((hk.below h_ hk.lt).cell 0).trans rfl
      have X_hk_1 : ∀ W, Ext x3 W → W.cell? ⟨w.heap.size, 1, none⟩ = some (.int .u64 (co : Int)) := fun W h_ => ((hk.below h_ hk.lt).cell 1).trans rfl
      have X_hk_2 : ∀ W, Ext x3 W → W.cell? ⟨w.heap.size, 2, none⟩ = some (.int .u64 (sp : Int)) := fun W h_ => ((hk.below h_ hk.lt).cell 2).trans rfl
      have X_hk_3 : ∀ W, Ext x3 W → W.cell? ⟨w.heap.size, 3, none⟩ = some (.int .u64 (df : Int)) := fun W h_ => ((hk.below h_ hk.lt).cell 3).trans rfl
      have X_hk_4 : ∀ W, Ext x3 W → W.cell? ⟨w.heap.size, 4, none⟩ = some (.int .u64 (pn : Int)) := fun W h_ => ((hk.below h_ hk.lt).cell 4).trans rfl
      have X_hk_5 : ∀ W, Ext x3 W → W.cell? ⟨w.heap.size, 5, none⟩ = some (.int .i64 ky) := fun W h_ => ((hk.below h_ hk.lt).cell 5).trans rfl
      refine ext_take (i := 0) (oi := ?oil10c0) (v := ?vl10c0) ?hil10c0 (by kernel_rfl) (by kernel_rfl) (by kernel_rfl) hQ ?hwl10c0 ?hyl10c0 ?restl10c0
      case hil10c0 => simp only [List.getElem?_toArray, List.getElem?_cons_zero]; rfl
      case hwl10c0 => rfl
      case hyl10c0 => intro W hW; go_simp; with_reducible rfl
      simp only [Act.put, List.setIfInBounds_toArray, List.set_cons_zero, List.set_cons_succ]
      refine ext_take (i := 1) (oi := ?oil10c1) (v := ?vl10c1) ?hil10c1 (by kernel_rfl) (by kernel_rfl) (by kernel_rfl) hQ ?hwl10c1 ?hyl10c1 ?restl10c1
      case hil10c1 => simp only [List.getElem?_toArray, List.getElem?_cons_zero, List.getElem?_cons_succ]; rfl
      case hwl10c1 => rfl
      case hyl10c1 => intro W hW; go_simp; with_reducible rfl
      simp only [Act.put, List.setIfInBounds_toArray, List.set_cons_zero, List.set_cons_succ]
      refine ext_step (i := 2) (oi := ?oil10c2) (by kernel_rfl) ?hil10c2 ?hwl10c2 (fun K hK => ?_)
      case hil10c2 => simp only [List.getElem?_toArray, List.getElem?_cons_zero, List.getElem?_cons_succ]; rfl
      case hwl10c2 => rfl
      go_simp
      refine (HBC.out _).mono ?_; rintro e wq ⟨rfl, rfl⟩; refine hK _ _ (Ext.refl _) ?_
      try simp only [Act.put, List.setIfInBounds_toArray, List.set_cons_zero, List.set_cons_succ]
      refine ext_take (i := 3) (oi := ?oil10c3) (v := ?vl10c3) ?hil10c3 (by kernel_rfl) (by kernel_rfl) (by kernel_rfl) hQ ?hwl10c3 ?hyl10c3 ?restl10c3
      case hil10c3 => simp only [List.getElem?_toArray, List.getElem?_cons_zero, List.getElem?_cons_succ]; rfl
      case hwl10c3 => rfl
      case hyl10c3 => intro W hW; go_simp; with_reducible rfl
      simp only [Act.put, List.setIfInBounds_toArray, List.set_cons_zero, List.set_cons_succ]
      refine ext_take (i := 4) (oi := ?oil10c4) (v := ?vl10c4) ?hil10c4 (by kernel_rfl) (by kernel_rfl) (by kernel_rfl) hQ ?hwl10c4 ?hyl10c4 ?restl10c4
      case hil10c4 => simp only [List.getElem?_toArray, List.getElem?_cons_zero, List.getElem?_cons_succ]; rfl
      case hwl10c4 => rfl
      case hyl10c4 => intro W hW; go_simp; with_reducible rfl
      simp only [Act.put, List.setIfInBounds_toArray, List.set_cons_zero, List.set_cons_succ]
      refine ext_take (i := 5) (oi := ?oil10c5) (v := ?vl10c5) ?hil10c5 (by kernel_rfl) (by kernel_rfl) (by kernel_rfl) hQ ?hwl10c5 ?hyl10c5 ?restl10c5
      case hil10c5 => simp only [List.getElem?_toArray, List.getElem?_cons_zero, List.getElem?_cons_succ]; rfl
      case hwl10c5 => rfl
      case hyl10c5 => intro W hW; go_simp; with_reducible rfl
      simp only [Act.put, List.setIfInBounds_toArray, List.set_cons_zero, List.set_cons_succ]
      refine wpAnyH_done (by kernel_rfl) ?_ _
      simp only [NoP]
      clear X_hk_0 X_hk_1 X_hk_2 X_hk_3 X_hk_4 X_hk_5
      have HE := Lib.hid (show hdB g st co sp df pn ky = false from by unfold hdB; rw [← Bool.not_eq_true]; simp only [Bool.and_eq_true, decide_eq_true_eq]; rw [hbs]; have h6 := H6.out; first | omega | (simp only [H6.out, if_true, decide_eq_true_eq]; omega))
      have z40 : x3.cell? ⟨w.heap.size, 0, none⟩ = some (.int .u8 (st : Int)) := (hk.cell 0).trans rfl
      have z41 := hk.frozen 0
      have z42 : x3.cell? ⟨w.heap.size, 1, none⟩ = some (.int .u64 (co : Int)) := (hk.cell 1).trans rfl
      have z43 := hk.frozen 1
      have z44 : x3.cell? ⟨w.heap.size, 2, none⟩ = some (.int .u64 (sp : Int)) := (hk.cell 2).trans rfl
      have z45 := hk.frozen 2
      have z46 : x3.cell? ⟨w.heap.size, 3, none⟩ = some (.int .u64 (df : Int)) := (hk.cell 3).trans rfl
      have z47 := hk.frozen 3
      have z48 : x3.cell? ⟨w.heap.size, 4, none⟩ = some (.int .u64 (pn : Int)) := (hk.cell 4).trans rfl
      have z49 := hk.frozen 4
      have z50 : x3.cell? ⟨w.heap.size, 5, none⟩ = some (.int .i64 ky) := (hk.cell 5).trans rfl
      have z51 := hk.frozen 5
      have z52 := hk.lt
      go_wp2_with fail
      go_ret
      exact ⟨by rw [HE.out]; rfl, (by have hs_ := hB.size; repeat (first | with_reducible exact hB | with_reducible (refine Below.setCell ?_ (by simp <;> omega) _) | with_reducible (refine Below.alloc ?_ (by first | exact hs_ | (simp <;> omega)) _) | with_reducible (refine Below.drew ?_)))⟩
    by_cases e5 : ky = 0
    rotate_left
    · clear z27 z28 z29 z30 z31 z32 z33 z34 z35 z36 z37 z38 z39
      refine nop_wp (ext_start (by kernel_rfl) calm_nop (fun hQ => ?_))
      replace hk : Blk x2.drew w.heap.size 94 #[.int .u8 (st : Int), .int .u64 (co : Int), .int .u64 (sp : Int), .int .u64 (df : Int), .int .u64 (pn : Int), .int .i64 ky] := (by repeat (first | with_reducible exact hk | with_reducible (apply Blk.set_) | with_reducible (apply Blk.far; case hp => (simp <;> omega)) | with_reducible (apply Blk.alloc) | with_reducible (apply Blk.drew)))
      replace hB : Below w.heap.size w x2.drew := Below.drew (by have hs_ := hB.size; repeat (first | with_reducible exact hB | with_reducible (refine Below.setCell ?_ (by simp <;> omega) _) | with_reducible (refine Below.alloc ?_ (by first | exact hs_ | (simp <;> omega)) _) | with_reducible (refine Below.drew ?_)))
      generalize x2.drew = x3 at *
      have X_hk_0 : ∀ W, Ext x3 W → W.cell? ⟨w.heap.size, 0, none⟩ = some (.int .u8 (st : Int)) := fun W h_ => ((hk.below h_ hk.lt).cell 0).trans rfl
      have X_hk_1 : ∀ W, Ext x3 W → W.cell? ⟨w.heap.size, 1, none⟩ = some (.int .u64 (co : Int)) := fun W h_ => ((hk.below h_ hk.lt).cell 1).trans rfl
      have X_hk_2 : ∀ W, Ext x3 W → W.cell? ⟨w.heap.size, 2, none⟩ = some (.int .u64 (sp : Int)) := fun W h_ => ((hk.below h_ hk.lt).cell 2).trans rfl
      have X_hk_3 : ∀ W, Ext x3 W → W.cell? ⟨w.heap.size, 3, none⟩ = some (.int .u64 (df : Int)) := fun W h_ => ((hk.below h_ hk.lt).cell 3).trans rfl
      have X_hk_4 : ∀ W, Ext x3 W → W.cell? ⟨w.heap.size, 4, none⟩ = some (.int .u64 (pn : Int)) := fun W h_ => ((hk.below h_ hk.lt).cell 4).trans rfl
      have X_hk_5 : ∀ W, Ext x3 W → W.cell? ⟨w.heap.size, 5, none⟩ = some (.int .i64 ky) := fun W h_ => ((hk.below h_ hk.lt).cell 5).trans rfl
      refine ext_take (i := 0) (oi := ?oil11c0) (v := ?vl11c0) ?hil11c0 (by kernel_rfl) (by kernel_rfl) (by kernel_rfl) hQ ?hwl11c0 ?hyl11c0 ?restl11c0
      case hil11c0 => simp only [List.getElem?_toArray, List.getElem?_cons_zero]; rfl
      case hwl11c0 => rfl
      case hyl11c0 => intro W hW; go_simp; with_reducible rfl
      simp only [Act.put, List.setIfInBounds_toArray, List.set_cons_zero, List.set_cons_succ]
      refine ext_take (i := 1) (oi := ?oil11c1) (v := ?vl11c1) ?hil11c1 (by kernel_rfl) (by kernel_rfl) (by kernel_rfl) hQ ?hwl11c1 ?hyl11c1 ?restl11c1
      case hil11c1 => simp only [List.getElem?_toArray, List.getElem?_cons_zero, List.getElem?_cons_succ]; rfl
      case hwl11c1 => rfl
      case hyl11c1 => intro W hW; go_simp; with_reducible rfl
      simp only [Act.put, List.setIfInBounds_toArray, List.set_cons_zero, List.set_cons_succ]
      refine ext_step (i := 2) (oi := ?oil11c2) (by kernel_rfl) ?hil11c2 ?hwl11c2 (fun K hK => ?_)
      case hil11c2 => simp only [List.getElem?_toArray, List.getElem?_cons_zero, List.getElem?_cons_succ]; rfl
      case hwl11c2 => rfl
      go_simp
      refine (HBC.out _).mono ?_; rintro e wq ⟨rfl, rfl⟩; refine hK _ _ (Ext.refl _) ?_
      try simp only [Act.put, List.setIfInBounds_toArray, List.set_cons_zero, List.set_cons_succ]
      refine ext_take (i := 3) (oi := ?oil11c3) (v := ?vl11c3) ?hil11c3 (by kernel_rfl) (by kernel_rfl) (by kernel_rfl) hQ ?hwl11c3 ?hyl11c3 ?restl11c3
      case hil11c3 => simp only [List.getElem?_toArray, List.getElem?_cons_zero, List.getElem?_cons_succ]; rfl
      case hwl11c3 => rfl
      case hyl11c3 => intro W hW; go_simp; with_reducible rfl
      simp only [Act.put, List.setIfInBounds_toArray, List.set_cons_zero, List.set_cons_succ]
      refine ext_take (i := 4) (oi := ?oil11c4) (v := ?vl11c4) ?hil11c4 (by kernel_rfl) (by kernel_rfl) (by kernel_rfl) hQ ?hwl11c4 ?hyl11c4 ?restl11c4
      case hil11c4 => simp only [List.getElem?_toArray, List.getElem?_cons_zero, List.getElem?_cons_succ]; rfl
      case hwl11c4 => rfl
      case hyl11c4 => intro W hW; go_simp; with_reducible rfl
      simp only [Act.put, List.setIfInBounds_toArray, List.set_cons_zero, List.set_cons_succ]
      refine ext_take (i := 5) (oi := ?oil11c5) (v := ?vl11c5) ?hil11c5 (by kernel_rfl) (by kernel_rfl) (by kernel_rfl) hQ ?hwl11c5 ?hyl11c5 ?restl11c5
      case hil11c5 => simp only [List.getElem?_toArray, List.getElem?_cons_zero, List.getElem?_cons_succ]; rfl
      case hwl11c5 => rfl
      case hyl11c5 => intro W hW; go_simp; with_reducible rfl
      simp only [Act.put, List.setIfInBounds_toArray, List.set_cons_zero, List.set_cons_succ]
      refine wpAnyH_done (by kernel_rfl) ?_ _
      simp only [NoP]
      clear X_hk_0 X_hk_1 X_hk_2 X_hk_3 X_hk_4 X_hk_5
      have HE := Lib.hid (show hdB g st co sp df pn ky = false from by unfold hdB; rw [← Bool.not_eq_true]; simp only [Bool.and_eq_true, decide_eq_true_eq]; rw [hbs]; have h6 := H6.out; first | omega | (simp only [H6.out, if_true, decide_eq_true_eq]; omega))
      have z40 : x3.cell? ⟨w.heap.size, 0, none⟩ = some (.int .u8 (st : Int)) := (hk.cell 0).trans rfl
      have z41 := hk.frozen 0
      have z42 : x3.cell? ⟨w.heap.size, 1, none⟩ = some (.int .u64 (co : Int)) := (hk.cell 1).trans rfl
      have z43 := hk.frozen 1
      have z44 : x3.cell? ⟨w.heap.size, 2, none⟩ = some (.int .u64 (sp : Int)) := (hk.cell 2).trans rfl
      have z45 := hk.frozen 2
      have z46 : x3.cell? ⟨w.heap.size, 3, none⟩ = some (.int .u64 (df : Int)) := (hk.cell 3).trans rfl
      have z47 := hk.frozen 3
      have z48 : x3.cell? ⟨w.heap.size, 4, none⟩ = some (.int .u64 (pn : Int)) := (hk.cell 4).trans rfl
      have z49 := hk.frozen 4
      have z50 : x3.cell? ⟨w.heap.size, 5, none⟩ = some (.int .i64 ky) := (hk.cell 5).trans rfl
      have z51 := hk.frozen 5
      have z52 := hk.lt
      go_wp2_with fail
      go_ret
      exact ⟨by rw [HE.out]; rfl, (by have hs_ := hB.size; repeat (first | with_reducible exact hB | with_reducible (refine Below.setCell ?_ (by simp <;> omega) _) | with_reducible (refine Below.alloc ?_ (by first | exact hs_ | (simp <;> omega)) _) | with_reducible (refine Below.drew ?_)))⟩
    clear z27 z28 z29 z30 z31 z32 z33 z34 z35 z36 z37 z38 z39
    refine nop_wp (ext_start (by kernel_rfl) calm_nop (fun hQ => ?_))
    replace hk : Blk x2.drew w.heap.size 94 #[.int .u8 (st : Int), .int .u64 (co : Int), .int .u64 (sp : Int), .int .u64 (df : Int), .int .u64 (pn : Int), .int .i64 ky] := (by repeat (first | with_reducible exact hk | with_reducible (apply Blk.set_) | with_reducible (apply Blk.far; case hp => (simp <;> omega)) | with_reducible (apply Blk.alloc) | with_reducible (apply Blk.drew)))
    replace hB : Below w.heap.size w x2.drew := Below.drew (by have hs_ := hB.size; repeat (first | with_reducible exact hB | with_reducible (refine Below.setCell ?_ (by simp <;> omega) _) | with_reducible (refine Below.alloc ?_ (by first | exact hs_ | (simp <;> omega)) _) | with_reducible (refine Below.drew ?_)))
    generalize x2.drew = x3 at *
    have X_hk_0 : ∀ W, Ext x3 W → W.cell? ⟨w.heap.size, 0, none⟩ = some (.int .u8 (st : Int)) := fun W h_ => ((hk.below h_ hk.lt).cell 0).trans rfl
    have X_hk_1 : ∀ W, Ext x3 W → W.cell? ⟨w.heap.size, 1, none⟩ = some (.int .u64 (co : Int)) := fun W h_ => ((hk.below h_ hk.lt).cell 1).trans rfl
    have X_hk_2 : ∀ W, Ext x3 W → W.cell? ⟨w.heap.size, 2, none⟩ = some (.int .u64 (sp : Int)) := fun W h_ => ((hk.below h_ hk.lt).cell 2).trans rfl
    have X_hk_3 : ∀ W, Ext x3 W → W.cell? ⟨w.heap.size, 3, none⟩ = some (.int .u64 (df : Int)) := fun W h_ => ((hk.below h_ hk.lt).cell 3).trans rfl
    have X_hk_4 : ∀ W, Ext x3 W → W.cell? ⟨w.heap.size, 4, none⟩ = some (.int .u64 (pn : Int)) := fun W h_ => ((hk.below h_ hk.lt).cell 4).trans rfl
    have X_hk_5 : ∀ W, Ext x3 W → W.cell? ⟨w.heap.size, 5, none⟩ = some (.int .i64 ky) := fun W h_ => ((hk.below h_ hk.lt).cell 5).trans rfl
    refine ext_take (i := 0) (oi := ?oil12c0) (v := ?vl12c0) ?hil12c0 (by kernel_rfl) (by kernel_rfl) (by kernel_rfl) hQ ?hwl12c0 ?hyl12c0 ?restl12c0
    case hil12c0 => simp only [List.getElem?_toArray, List.getElem?_cons_zero]; rfl
    case hwl12c0 => rfl
    case hyl12c0 => intro W hW; go_simp; with_reducible rfl
    simp only [Act.put, List.setIfInBounds_toArray, List.set_cons_zero, List.set_cons_succ]
    refine ext_take (i := 1) (oi := ?oil12c1) (v := ?vl12c1) ?hil12c1 (by kernel_rfl) (by kernel_rfl) (by kernel_rfl) hQ ?hwl12c1 ?hyl12c1 ?restl12c1
    case hil12c1 => simp only [List.getElem?_toArray, List.getElem?_cons_zero, List.getElem?_cons_succ]; rfl
    case hwl12c1 => rfl
    case hyl12c1 => intro W hW; go_simp; with_reducible rfl
    simp only [Act.put, List.setIfInBounds_toArray, List.set_cons_zero, List.set_cons_succ]
    refine ext_step (i := 2) (oi := ?oil12c2) (by kernel_rfl) ?hil12c2 ?hwl12c2 (fun K hK => ?_)
    case hil12c2 => simp only [List.getElem?_toArray, List.getElem?_cons_zero, List.getElem?_cons_succ]; rfl
    case hwl12c2 => rfl
    go_simp
    refine (HBC.out _).mono ?_; rintro e wq ⟨rfl, rfl⟩; refine hK _ _ (Ext.refl _) ?_
    try simp only [Act.put, List.setIfInBounds_toArray, List.set_cons_zero, List.set_cons_succ]
    refine ext_take (i := 3) (oi := ?oil12c3) (v := ?vl12c3) ?hil12c3 (by kernel_rfl) (by kernel_rfl) (by kernel_rfl) hQ ?hwl12c3 ?hyl12c3 ?restl12c3
    case hil12c3 => simp only [List.getElem?_toArray, List.getElem?_cons_zero, List.getElem?_cons_succ]; rfl
    case hwl12c3 => rfl
    case hyl12c3 => intro W hW; go_simp; with_reducible rfl
    simp only [Act.put, List.setIfInBounds_toArray, List.set_cons_zero, List.set_cons_succ]
    refine ext_take (i := 4) (oi := ?oil12c4) (v := ?vl12c4) ?hil12c4 (by kernel_rfl) (by kernel_rfl) (by kernel_rfl) hQ ?hwl12c4 ?hyl12c4 ?restl12c4
    case hil12c4 => simp only [List.getElem?_toArray, List.getElem?_cons_zero, List.getElem?_cons_succ]; rfl
    case hwl12c4 => rfl
    case hyl12c4 => intro W hW; go_simp; with_reducible rfl
    simp only [Act.put, List.setIfInBounds_toArray, List.set_cons_zero, List.set_cons_succ]
    refine ext_take (i := 5) (oi := ?oil12c5) (v := ?vl12c5) ?hil12c5 (by kernel_rfl) (by kernel_rfl) (by kernel_rfl) hQ ?hwl12c5 ?hyl12c5 ?restl12c5
    case hil12c5 => simp only [List.getElem?_toArray, List.getElem?_cons_zero, List.getElem?_cons_succ]; rfl
    case hwl12c5 => rfl
    case hyl12c5 => intro W hW; go_simp; with_reducible rfl
    simp only [Act.put, List.setIfInBounds_toArray, List.set_cons_zero, List.set_cons_succ]
    refine wpAnyH_done (by kernel_rfl) ?_ _
    simp only [NoP]
    clear X_hk_0 X_hk_1 X_hk_2 X_hk_3 X_hk_4 X_hk_5
    have HE := Lib.hid (show hdB g st co sp df pn ky = true from by unfold hdB; simp only [Bool.and_eq_true, decide_eq_true_eq]; rw [hbs]; have h6 := H6.out; simp only [H6.out, if_true, decide_eq_true_eq]; omega)
    have z40 : x3.cell? ⟨w.heap.size, 0, none⟩ = some (.int .u8 (st : Int)) := (hk.cell 0).trans rfl
    have z41 := hk.frozen 0
    have z42 : x3.cell? ⟨w.heap.size, 1, none⟩ = some (.int .u64 (co : Int)) := (hk.cell 1).trans rfl
    have z43 := hk.frozen 1
    have z44 : x3.cell? ⟨w.heap.size, 2, none⟩ = some (.int .u64 (sp : Int)) := (hk.cell 2).trans rfl
    have z45 := hk.frozen 2
    have z46 : x3.cell? ⟨w.heap.size, 3, none⟩ = some (.int .u64 (df : Int)) := (hk.cell 3).trans rfl
    have z47 := hk.frozen 3
    have z48 : x3.cell? ⟨w.heap.size, 4, none⟩ = some (.int .u64 (pn : Int)) := (hk.cell 4).trans rfl
    have z49 := hk.frozen 4
    have z50 : x3.cell? ⟨w.heap.size, 5, none⟩ = some (.int .i64 ky) := (hk.cell 5).trans rfl
    have z51 := hk.frozen 5
    have z52 := hk.lt
    go_wp2_with fail
    go_ret
    exact ⟨by rw [HE.out]; rfl, (by have hs_ := hB.size; repeat (first | with_reducible exact hB | with_reducible (refine Below.setCell ?_ (by simp <;> omega) _) | with_reducible (refine Below.alloc ?_ (by first | exact hs_ | (simp <;> omega)) _) | with_reducible (refine Below.drew ?_)))⟩
  have d6 : ((st : Int) == 3) = false := by rw [beq_eq_false_iff_ne]; omega
  have H6 := Lib.hid h6
  clear h6
  have hB : Below w.heap.size w (w.alloc (.cells #[.int .u8 (st : Int), .int .u64 (co : Int), .int .u64 (sp : Int), .int .u64 (df : Int), .int .u64 (pn : Int), .int .i64 ky] 94)) := (Below.alloc (Below.refl w.heap.size w) (by simp <;> omega) (.cells #[.int .u8 (st : Int), .int .u64 (co : Int), .int .u64 (sp : Int), .int .u64 (df : Int), .int .u64 (pn : Int), .int .i64 ky] 94))
  have hk := Blk.new w 94 #[.int .u8 (st : Int), .int .u64 (co : Int), .int .u64 (sp : Int), .int .u64 (df : Int), .int .u64 (pn : Int), .int .i64 ky]
  go_enter Try.func107, Try.ntmps107
  have z1 : (w.alloc (.cells #[.int .u8 (st : Int), .int .u64 (co : Int), .int .u64 (sp : Int), .int .u64 (df : Int), .int .u64 (pn : Int), .int .i64 ky] 94)).cell? ⟨w.heap.size, 0, none⟩ = some (.int .u8 (st : Int)) := (hk.cell 0).trans rfl
  have z2 := hk.frozen 0
  have z3 : (w.alloc (.cells #[.int .u8 (st : Int), .int .u64 (co : Int), .int .u64 (sp : Int), .int .u64 (df : Int), .int .u64 (pn : Int), .int .i64 ky] 94)).cell? ⟨w.heap.size, 1, none⟩ = some (.int .u64 (co : Int)) := (hk.cell 1).trans rfl
  have z4 := hk.frozen 1
  have z5 : (w.alloc (.cells #[.int .u8 (st : Int), .int .u64 (co : Int), .int .u64 (sp : Int), .int .u64 (df : Int), .int .u64 (pn : Int), .int .i64 ky] 94)).cell? ⟨w.heap.size, 2, none⟩ = some (.int .u64 (sp : Int)) := (hk.cell 2).trans rfl
  have z6 := hk.frozen 2
  have z7 : (w.alloc (.cells #[.int .u8 (st : Int), .int .u64 (co : Int), .int .u64 (sp : Int), .int .u64 (df : Int), .int .u64 (pn : Int), .int .i64 ky] 94)).cell? ⟨w.heap.size, 3, none⟩ = some (.int .u64 (df : Int)) := (hk.cell 3).trans rfl
  have z8 := hk.frozen 3
  have z9 : (w.alloc (.cells #[.int .u8 (st : Int), .int .u64 (co : Int), .int .u64 (sp : Int), .int .u64 (df : Int), .int .u64 (pn : Int), .int .i64 ky] 94)).cell? ⟨w.heap.size, 4, none⟩ = some (.int .u64 (pn : Int)) := (hk.cell 4).trans rfl
  have z10 := hk.frozen 4
  have z11 : (w.alloc (.cells #[.int .u8 (st : Int), .int .u64 (co : Int), .int .u64 (sp : Int), .int .u64 (df : Int), .int .u64 (pn : Int), .int .i64 ky] 94)).cell? ⟨w.heap.size, 5, none⟩ = some (.int .i64 ky) := (hk.cell 5).trans rfl
  have z12 := hk.frozen 5
  have z13 := hk.lt
  go_wp2_with fail
  clear z1 z2 z3 z4 z5 z6 z7 z8 z9 z10 z11 z12 z13
  refine nop_wp (ext_start (by kernel_rfl) calm_nop (fun hQ => ?_))
  replace hk : Blk (w.alloc (.cells #[.int .u8 (st : Int), .int .u64 (co : Int), .int .u64 (sp : Int), .int .u64 (df : Int), .int .u64 (pn : Int), .int .i64 ky] 94)).drew w.heap.size 94 #[.int .u8 (st : Int), .int .u64 (co : Int), .int .u64 (sp : Int), .int .u64 (df : Int), .int .u64 (pn : Int), .int .i64 ky] := (by repeat (first | with_reducible exact hk | with_reducible (apply Blk.set_) | with_reducible (apply Blk.far; case hp => (simp <;> omega)) | with_reducible (apply Blk.alloc) | with_reducible (apply Blk.drew)))
  replace hB : Below w.heap.size w (w.alloc (.cells #[.int .u8 (st : Int), .int .u64 (co : Int), .int .u64 (sp : Int), .int .u64 (df : Int), .int .u64 (pn : Int), .int .i64 ky] 94)).drew := Below.drew (by have hs_ := hB.size; repeat (first | with_reducible exact hB | with_reducible (refine Below.setCell ?_ (by simp <;> omega) _) | with_reducible (refine Below.alloc ?_ (by first | exact hs_ | (simp <;> omega)) _) | with_reducible (refine Below.drew ?_)))
  generalize (w.alloc (.cells #[.int .u8 (st : Int), .int .u64 (co : Int), .int .u64 (sp : Int), .int .u64 (df : Int), .int .u64 (pn : Int), .int .i64 ky] 94)).drew = x1 at *
  have X_hk_0 : ∀ W, Ext x1 W → W.cell? ⟨w.heap.size, 0, none⟩ = some (.int .u8 (st : Int)) := fun W h_ => ((hk.below h_ hk.lt).cell 0).trans rfl
  have X_hk_1 : ∀ W, Ext x1 W → W.cell? ⟨w.heap.size, 1, none⟩ = some (.int .u64 (co : Int)) := fun W h_ => ((hk.below h_ hk.lt).cell 1).trans rfl
  have X_hk_2 : ∀ W, Ext x1 W → W.cell? ⟨w.heap.size, 2, none⟩ = some (.int .u64 (sp : Int)) := fun W h_ => ((hk.below h_ hk.lt).cell 2).trans rfl
  have X_hk_3 : ∀ W, Ext x1 W → W.cell? ⟨w.heap.size, 3, none⟩ = some (.int .u64 (df : Int)) := fun W h_ => ((hk.below h_ hk.lt).cell 3).trans rfl
  have X_hk_4 : ∀ W, Ext x1 W → W.cell? ⟨w.heap.size, 4, none⟩ = some (.int .u64 (pn : Int)) := fun W h_ => ((hk.below h_ hk.lt).cell 4).trans rfl
  have X_hk_5 : ∀ W, Ext x1 W → W.cell? ⟨w.heap.size, 5, none⟩ = some (.int .i64 ky) := fun W h_ => ((hk.below h_ hk.lt).cell 5).trans rfl
  refine ext_take (i := 0) (oi := ?oil13a0) (v := ?vl13a0) ?hil13a0 (by kernel_rfl) (by kernel_rfl) (by kernel_rfl) hQ ?hwl13a0 ?hyl13a0 ?restl13a0
  case hil13a0 => simp only [List.getElem?_toArray, List.getElem?_cons_zero]; rfl
  case hwl13a0 => rfl
  case hyl13a0 => intro W hW; go_simp; with_reducible rfl
  simp only [Act.put, List.setIfInBounds_toArray, List.set_cons_zero, List.set_cons_succ]
  refine ext_take (i := 1) (oi := ?oil13a1) (v := ?vl13a1) ?hil13a1 (by kernel_rfl) (by kernel_rfl) (by kernel_rfl) hQ ?hwl13a1 ?hyl13a1 ?restl13a1
  case hil13a1 => simp only [List.getElem?_toArray, List.getElem?_cons_zero, List.getElem?_cons_succ]; rfl
  case hwl13a1 => rfl
  case hyl13a1 => intro W hW; go_simp; with_reducible rfl
  simp only [Act.put, List.setIfInBounds_toArray, List.set_cons_zero, List.set_cons_succ]
  refine ext_take (i := 2) (oi := ?oil13a2) (v := ?vl13a2) ?hil13a2 (by kernel_rfl) (by kernel_rfl) (by kernel_rfl) hQ ?hwl13a2 ?hyl13a2 ?restl13a2
  case hil13a2 => simp only [List.getElem?_toArray, List.getElem?_cons_zero, List.getElem?_cons_succ]; rfl
  case hwl13a2 => rfl
  case hyl13a2 => intro W hW; go_simp; with_reducible rfl
  simp only [Act.put, List.setIfInBounds_toArray, List.set_cons_zero, List.set_cons_succ]
  refine ext_step (i := 3) (oi := ?oil13a3) (by kernel_rfl) ?hil13a3 ?hwl13a3 (fun K hK => ?_)
  case hil13a3 => simp only [List.getElem?_toArray, List.getElem?_cons_zero, List.getElem?_cons_succ]; rfl
  case hwl13a3 => rfl
  go_simp
  refine (HBC.out _).mono ?_; rintro e wq ⟨rfl, rfl⟩; refine hK _ _ (Ext.refl _) ?_
  try simp only [Act.put, List.setIfInBounds_toArray, List.set_cons_zero, List.set_cons_succ]
  refine ext_take (i := 4) (oi := ?oil13a4) (v := ?vl13a4) ?hil13a4 (by kernel_rfl) (by kernel_rfl) (by kernel_rfl) hQ ?hwl13a4 ?hyl13a4 ?restl13a4
  case hil13a4 => simp only [List.getElem?_toArray, List.getElem?_cons_zero, List.getElem?_cons_succ]; rfl
  case hwl13a4 => rfl
  case hyl13a4 => intro W hW; go_simp; with_reducible rfl
  simp only [Act.put, List.setIfInBounds_toArray, List.set_cons_zero, List.set_cons_succ]
  refine ext_take (i := 5) (oi := ?oil13a5) (v := ?vl13a5) ?hil13a5 (by kernel_rfl) (by kernel_rfl) (by kernel_rfl) hQ ?hwl13a5 ?hyl13a5 ?restl13a5
  case hil13a5 => simp only [List.getElem?_toArray, List.getElem?_cons_zero, List.getElem?_cons_succ]; rfl
  case hwl13a5 => rfl
  case hyl13a5 => intro W hW; go_simp; with_reducible rfl
  simp only [Act.put, List.setIfInBounds_toArray, List.set_cons_zero, List.set_cons_succ]
  refine wpAnyH_done (by kernel_rfl) ?_ _
  simp only [NoP]
  clear X_hk_0 X_hk_1 X_hk_2 X_hk_3 X_hk_4 X_hk_5
  have z14 : x1.cell? ⟨w.heap.size, 0, none⟩ = some (.int .u8 (st : Int)) := (hk.cell 0).trans rfl
  have z15 := hk.frozen 0
  have z16 : x1.cell? ⟨w.heap.size, 1, none⟩ = some (.int .u64 (co : Int)) := (hk.cell 1).trans rfl
  have z17 := hk.frozen 1
  have z18 : x1.cell? ⟨w.heap.size, 2, none⟩ = some (.int .u64 (sp : Int)) := (hk.cell 2).trans rfl
  have z19 := hk.frozen 2
  have z20 : x1.cell? ⟨w.heap.size, 3, none⟩ = some (.int .u64 (df : Int)) := (hk.cell 3).trans rfl
  have z21 := hk.frozen 3
  have z22 : x1.cell? ⟨w.heap.size, 4, none⟩ = some (.int .u64 (pn : Int)) := (hk.cell 4).trans rfl
  have z23 := hk.frozen 4
  have z24 : x1.cell? ⟨w.heap.size, 5, none⟩ = some (.int .i64 ky) := (hk.cell 5).trans rfl
  have z25 := hk.frozen 5
  have z26 := hk.lt
  go_wp2_with fail
  clear z14 z15 z16 z17 z18 z19 z20 z21 z22 z23 z24 z25 z26
  refine nop_wp (ext_start (by kernel_rfl) calm_nop (fun hQ => ?_))
  replace hk : Blk x1.drew w.heap.size 94 #[.int .u8 (st : Int), .int .u64 (co : Int), .int .u64 (sp : Int), .int .u64 (df : Int), .int .u64 (pn : Int), .int .i64 ky] := (by repeat (first | with_reducible exact hk | with_reducible (apply Blk.set_) | with_reducible (apply Blk.far; case hp => (simp <;> omega)) | with_reducible (apply Blk.alloc) | with_reducible (apply Blk.drew)))
  replace hB : Below w.heap.size w x1.drew := Below.drew (by have hs_ := hB.size; repeat (first | with_reducible exact hB | with_reducible (refine Below.setCell ?_ (by simp <;> omega) _) | with_reducible (refine Below.alloc ?_ (by first | exact hs_ | (simp <;> omega)) _) | with_reducible (refine Below.drew ?_)))
  generalize x1.drew = x2 at *
  have X_hk_0 : ∀ W, Ext x2 W → W.cell? ⟨w.heap.size, 0, none⟩ = some (.int .u8 (st : Int)) := fun W h_ => ((hk.below h_ hk.lt).cell 0).trans rfl
  have X_hk_1 : ∀ W, Ext x2 W → W.cell? ⟨w.heap.size, 1, none⟩ = some (.int .u64 (co : Int)) := fun W h_ => ((hk.below h_ hk.lt).cell 1).trans rfl
  have X_hk_2 : ∀ W, Ext x2 W → W.cell? ⟨w.heap.size, 2, none⟩ = some (.int .u64 (sp : Int)) := fun W h_ => ((hk.below h_ hk.lt).cell 2).trans rfl
  have X_hk_3 : ∀ W, Ext x2 W → W.cell? ⟨w.heap.size, 3, none⟩ = some (.int .u64 (df : Int)) := fun W h_ => ((hk.below h_ hk.lt).cell 3).trans rfl
  have X_hk_4 : ∀ W, Ext x2 W → W.cell? ⟨w.heap.size, 4, none⟩ = some (.int .u64 (pn : Int)) := fun W h_ => ((hk.below h_ hk.lt).cell 4).trans rfl
  have X_hk_5 : ∀ W, Ext x2 W → W.cell? ⟨w.heap.size, 5, none⟩ = some (.int .i64 ky) := fun W h_ => ((hk.below h_ hk.lt).cell 5).trans rfl
  refine ext_take (i := 0) (oi := ?oil13b0) (v := ?vl13b0) ?hil13b0 (by kernel_rfl) (by kernel_rfl) (by kernel_rfl) hQ ?hwl13b0 ?hyl13b0 ?restl13b0
  case hil13b0 => simp only [List.getElem?_toArray, List.getElem?_cons_zero]; rfl
  case hwl13b0 => rfl
  case hyl13b0 => intro W hW; go_simp; with_reducible rfl
  simp only [Act.put, List.setIfInBounds_toArray, List.set_cons_zero, List.set_cons_succ]
  refine ext_take (i := 1) (oi := ?oil13b1) (v := ?vl13b1) ?hil13b1 (by kernel_rfl) (by kernel_rfl) (by kernel_rfl) hQ ?hwl13b1 ?hyl13b1 ?restl13b1
  case hil13b1 => simp only [List.getElem?_toArray, List.getElem?_cons_zero, List.getElem?_cons_succ]; rfl
  case hwl13b1 => rfl
  case hyl13b1 => intro W hW; go_simp; with_reducible rfl
  simp only [Act.put, List.setIfInBounds_toArray, List.set_cons_zero, List.set_cons_succ]
  refine ext_take (i := 2) (oi := ?oil13b2) (v := ?vl13b2) ?hil13b2 (by kernel_rfl) (by kernel_rfl) (by kernel_rfl) hQ ?hwl13b2 ?hyl13b2 ?restl13b2
  case hil13b2 => simp only [List.getElem?_toArray, List.getElem?_cons_zero, List.getElem?_cons_succ]; rfl
  case hwl13b2 => rfl
  case hyl13b2 => intro W hW; go_simp; with_reducible rfl
  simp only [Act.put, List.setIfInBounds_toArray, List.set_cons_zero, List.set_cons_succ]
  refine ext_step (i := 3) (oi := ?oil13b3) (by kernel_rfl) ?hil13b3 ?hwl13b3 (fun K hK => ?_)
  case hil13b3 => simp only [List.getElem?_toArray, List.getElem?_cons_zero, List.getElem?_cons_succ]; rfl
  case hwl13b3 => rfl
  go_simp
  refine (HBC.out _).mono ?_; rintro e wq ⟨rfl, rfl⟩; refine hK _ _ (Ext.refl _) ?_
  try simp only [Act.put, List.setIfInBounds_toArray, List.set_cons_zero, List.set_cons_succ]
  refine ext_take (i := 4) (oi := ?oil13b4) (v := ?vl13b4) ?hil13b4 (by kernel_rfl) (by kernel_rfl) (by kernel_rfl) hQ ?hwl13b4 ?hyl13b4 ?restl13b4
  case hil13b4 => simp only [List.getElem?_toArray, List.getElem?_cons_zero, List.getElem?_cons_succ]; rfl
  case hwl13b4 => rfl
  case hyl13b4 => intro W hW; go_simp; with_reducible rfl
  simp only [Act.put, List.setIfInBounds_toArray, List.set_cons_zero, List.set_cons_succ]
  refine ext_take (i := 5) (oi := ?oil13b5) (v := ?vl13b5) ?hil13b5 (by kernel_rfl) (by kernel_rfl) (by kernel_rfl) hQ ?hwl13b5 ?hyl13b5 ?restl13b5
  case hil13b5 => simp only [List.getElem?_toArray, List.getElem?_cons_zero, List.getElem?_cons_succ]; rfl
  case hwl13b5 => rfl
  case hyl13b5 => intro W hW; go_simp; with_reducible rfl
  simp only [Act.put, List.setIfInBounds_toArray, List.set_cons_zero, List.set_cons_succ]
  refine ext_take (i := 6) (oi := ?oil13b6) (v := ?vl13b6) ?hil13b6 (by kernel_rfl) (by kernel_rfl) (by kernel_rfl) hQ ?hwl13b6 ?hyl13b6 ?restl13b6
  case hil13b6 => simp only [List.getElem?_toArray, List.getElem?_cons_zero, List.getElem?_cons_succ]; rfl
  case hwl13b6 => rfl
  case hyl13b6 => intro W hW; go_simp; with_reducible rfl
  simp only [Act.put, List.setIfInBounds_toArray, List.set_cons_zero, List.set_cons_succ]
  refine ext_take (i := 7) (oi := ?oil13b7) (v := ?vl13b7) ?hil13b7 (by kernel_rfl) (by kernel_rfl) (by kernel_rfl) hQ ?hwl13b7 ?hyl13b7 ?restl13b7
  case hil13b7 => simp only [List.getElem?_toArray, List.getElem?_cons_zero, List.getElem?_cons_succ]; rfl
  case hwl13b7 => rfl
  case hyl13b7 => intro W hW; go_simp; with_reducible rfl
  simp only [Act.put, List.setIfInBounds_toArray, List.set_cons_zero, List.set_cons_succ]
  refine ext_take (i := 8) (oi := ?oil13b8) (v := ?vl13b8) ?hil13b8 (by kernel_rfl) (by kernel_rfl) (by kernel_rfl) hQ ?hwl13b8 ?hyl13b8 ?restl13b8
  case hil13b8 => simp only [List.getElem?_toArray, List.getElem?_cons_zero, List.getElem?_cons_succ]; rfl
  case hwl13b8 => rfl
  case hyl13b8 => intro W hW; go_simp; with_reducible rfl
  simp only [Act.put, List.setIfInBounds_toArray, List.set_cons_zero, List.set_cons_succ]
  refine ext_take (i := 9) (oi := ?oil13b9) (v := ?vl13b9) ?hil13b9 (by kernel_rfl) (by kernel_rfl) (by kernel_rfl) hQ ?hwl13b9 ?hyl13b9 ?restl13b9
  case hil13b9 => simp only [List.getElem?_toArray, List.getElem?_cons_zero, List.getElem?_cons_succ]; rfl
  case hwl13b9 => rfl
  case hyl13b9 => intro W hW; go_simp; with_reducible rfl
  simp only [Act.put, List.setIfInBounds_toArray, List.set_cons_zero, List.set_cons_succ]
  refine wpAnyH_done (by kernel_rfl) ?_ _
  simp only [NoP]
  clear X_hk_0 X_hk_1 X_hk_2 X_hk_3 X_hk_4 X_hk_5
  by_cases e1 : ky = 0
  · have d7 : (ky == 0) = true := by rw [beq_iff_eq]; exact e1
    have hmm := HM8.out
    have HE := Lib.hid (show hdB g st co sp df pn ky = true from by unfold hdB; simp only [Bool.and_eq_true, decide_eq_true_eq]; rw [hbs]; have h6 := H6.out; rw [if_neg h6]; simp only [decide_eq_true_eq]; omega)
    clear hmm
    have z27 : x2.cell? ⟨w.heap.size, 0, none⟩ = some (.int .u8 (st : Int)) := (hk.cell 0).trans rfl
    have z28 := hk.frozen 0
    have z29 : x2.cell? ⟨w.heap.size, 1, none⟩ = some (.int .u64 (co : Int)) := (hk.cell 1).trans rfl
    have z30 := hk.frozen 1
    have z31 : x2.cell? ⟨w.heap.size, 2, none⟩ = some (.int .u64 (sp : Int)) := (hk.cell 2).trans rfl
    have z32 := hk.frozen 2
    have z33 : x2.cell? ⟨w.heap.size, 3, none⟩ = some (.int .u64 (df : Int)) := (hk.cell 3).trans rfl
    have z34 := hk.frozen 3
    have z35 : x2.cell? ⟨w.heap.size, 4, none⟩ = some (.int .u64 (pn : Int)) := (hk.cell 4).trans rfl
    have z36 := hk.frozen 4
    have z37 : x2.cell? ⟨w.heap.size, 5, none⟩ = some (.int .i64 ky) := (hk.cell 5).trans rfl
    have z38 := hk.frozen 5
    have z39 := hk.lt
    go_wp2_with fail
    go_ret
    exact ⟨by rw [HE.out]; rfl, (by have hs_ := hB.size; repeat (first | with_reducible exact hB | with_reducible (refine Below.setCell ?_ (by simp <;> omega) _) | with_reducible (refine Below.alloc ?_ (by first | exact hs_ | (simp <;> omega)) _) | with_reducible (refine Below.drew ?_)))⟩
  have d7 : (ky == 0) = false := by rw [beq_eq_false_iff_ne]; exact e1
  have hmm := HM8.out
  by_cases e2 : st = 2
  · have d8 : ((st : Int) == 2) = true := by rw [beq_iff_eq]; omega
    have HE := Lib.hid (show hdB g st co sp df pn ky = true from by unfold hdB; simp only [Bool.and_eq_true, decide_eq_true_eq]; rw [hbs]; have h6 := H6.out; rw [if_neg h6]; simp only [decide_eq_true_eq]; omega)
    clear hmm
    have z27 : x2.cell? ⟨w.heap.size, 0, none⟩ = some (.int .u8 (st : Int)) := (hk.cell 0).trans rfl
    have z28 := hk.frozen 0
    have z29 : x2.cell? ⟨w.heap.size, 1, none⟩ = some (.int .u64 (co : Int)) := (hk.cell 1).trans rfl
    have z30 := hk.frozen 1
    have z31 : x2.cell? ⟨w.heap.size, 2, none⟩ = some (.int .u64 (sp : Int)) := (hk.cell 2).trans rfl
    have z32 := hk.frozen 2
    have z33 : x2.cell? ⟨w.heap.size, 3, none⟩ = some (.int .u64 (df : Int)) := (hk.cell 3).trans rfl
    have z34 := hk.frozen 3
    have z35 : x2.cell? ⟨w.heap.size, 4, none⟩ = some (.int .u64 (pn : Int)) := (hk.cell 4).trans rfl
    have z36 := hk.frozen 4
    have z37 : x2.cell? ⟨w.heap.size, 5, none⟩ = some (.int .i64 ky) := (hk.cell 5).trans rfl
    have z38 := hk.frozen 5
    have z39 := hk.lt
    go_wp2_with fail
    go_ret
    exact ⟨by rw [HE.out]; rfl, (by have hs_ := hB.size; repeat (first | with_reducible exact hB | with_reducible (refine Below.setCell ?_ (by simp <;> omega) _) | with_reducible (refine Below.alloc ?_ (by first | exact hs_ | (simp <;> omega)) _) | with_reducible (refine Below.drew ?_)))⟩
  have d8 : ((st : Int) == 2) = false := by rw [beq_eq_false_iff_ne]; omega
  have HE := Lib.hid (show hdB g st co sp df pn ky = false from by unfold hdB; rw [← Bool.not_eq_true]; simp only [Bool.and_eq_true, decide_eq_true_eq]; rw [hbs]; have h6 := H6.out; rw [if_neg h6]; simp only [decide_eq_true_eq]; omega)
  clear hmm
  have z27 : x2.cell? ⟨w.heap.size, 0, none⟩ = some (.int .u8 (st : Int)) := (hk.cell 0).trans rfl
  have z28 := hk.frozen 0
  have z29 : x2.cell? ⟨w.heap.size, 1, none⟩ = some (.int .u64 (co : Int)) := (hk.cell 1).trans rfl
  have z30 := hk.frozen 1
  have z31 : x2.cell? ⟨w.heap.size, 2, none⟩ = some (.int .u64 (sp : Int)) := (hk.cell 2).trans rfl
  have z32 := hk.frozen 2
  have z33 : x2.cell? ⟨w.heap.size, 3, none⟩ = some (.int .u64 (df : Int)) := (hk.cell 3).trans rfl
  have z34 := hk.frozen 3
  have z35 : x2.cell? ⟨w.heap.size, 4, none⟩ = some (.int .u64 (pn : Int)) := (hk.cell 4).trans rfl
  have z36 := hk.frozen 4
  have z37 : x2.cell? ⟨w.heap.size, 5, none⟩ = some (.int .i64 ky) := (hk.cell 5).trans rfl
  have z38 := hk.frozen 5
  have z39 := hk.lt
  go_wp2_with fail
  go_ret
  exact ⟨by rw [HE.out]; rfl, (by have hs_ := hB.size; repeat (first | with_reducible exact hB | with_reducible (refine Below.setCell ?_ (by simp <;> omega) _) | with_reducible (refine Below.alloc ?_ (by first | exact hs_ | (simp <;> omega)) _) | with_reducible (refine Below.drew ?_)))⟩

end Go.Proofs.Ytldaijkcmnnjpaa
