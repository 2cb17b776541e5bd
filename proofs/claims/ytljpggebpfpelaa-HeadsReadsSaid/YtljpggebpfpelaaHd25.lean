/- The reference's ReadEnded. Each states its conditions. -/
import Derived.Test.YtljpggebpfpelaaHd22
namespace Go.Proofs.Ytljpggebpfpelaa
open Go.RowKit Wire
set_option linter.unusedVariables false

theorem bx_alloc2e {B g : Nat} {w : World} (hB : B ≤ w.heap.size) (o o' : Obj) : BelowX B g (w.alloc o) (w.alloc o') :=
  ⟨rfl, rfl, rfl, by simp, fun k hk _ => by
    have h1 := (Ext.al w o).block k (by omega)
    have h2 := (Ext.al w o').block k (by omega)
    exact h2.trans h1.symm⟩

set_option maxRecDepth 100000 in
set_option maxHeartbeats 6400000 in
theorem rreadEnded_any (A : Option Addr) (n c : Nat) (l : List UInt8) (w : World) (hr : Rb w A n l) (hn : l.length ≤ 200000) :
    Calls Try.prog 24 #[.slice A n c] w fun e w' => ReP w l e w' := by
  have HL := Lib.hid hr.len8
  have HR := Lib.hid hr
  have hnl : n ≤ 200000 := by rw [← hr.len8]; exact hn
  clear hr
  have hB : Below w.heap.size w (w.alloc (.cells #[.int .u8 0, .int .i64 0, .int .i64 0] 23)) := (Below.alloc (Below.refl w.heap.size w) (by simp <;> omega) (.cells #[.int .u8 0, .int .i64 0, .int .i64 0] 23))
  have hz := Blk.new w 23 #[.int .u8 0, .int .i64 0, .int .i64 0]
  go_enter Try.func24, Try.ntmps24
  have z1 : (w.alloc (.cells #[.int .u8 0, .int .i64 0, .int .i64 0] 23)).cell? ⟨w.heap.size, 0, none⟩ = some (.int .u8 0) := (hz.cell 0).trans rfl
  have z2 := hz.frozen 0
  have z3 : (w.alloc (.cells #[.int .u8 0, .int .i64 0, .int .i64 0] 23)).cell? ⟨w.heap.size, 1, none⟩ = some (.int .i64 0) := (hz.cell 1).trans rfl
  have z4 := hz.frozen 1
  have z5 : (w.alloc (.cells #[.int .u8 0, .int .i64 0, .int .i64 0] 23)).cell? ⟨w.heap.size, 2, none⟩ = some (.int .i64 0) := (hz.cell 2).trans rfl
  have z6 := hz.frozen 2
  have z7 := hz.lt
  by_cases g0 : n < 1
  · have HE := Lib.hid (show red l = none from by
      have := HL.out
      cases l with
      | nil => rfl
      | cons y r => simp at this; omega)
    go_wp2_with fail
    refine ret_c1 rfl enT27 rfl (by repeat (first | with_reducible exact hz | with_reducible (apply Blk.set_) | with_reducible (apply Blk.far; case hp => (simp <;> omega)) | with_reducible (apply Blk.alloc) | with_reducible (apply Blk.drew))) (by rfl) ?_
    exact ⟨.inl ⟨HE.out, rfl⟩, (by have hs_ := hB.size; repeat (first | with_reducible exact hB | with_reducible (refine Below.setCell ?_ (by simp <;> omega) _) | with_reducible (refine Below.alloc ?_ (by first | exact hs_ | (simp <;> omega)) _) | with_reducible (refine Below.drew ?_)))⟩
  obtain ⟨ad, y, hA, hadb, hy, hc0⟩ := HR.out.byte (k := 0) (by omega)
  have HY := Lib.hid hy
  have hll := HL.out
  obtain ⟨r, hlr⟩ : ∃ r, l = y :: r := by
    cases l with
    | nil => simp at hy
    | cons y' r => simp at hy; subst hy; exact ⟨r, rfl⟩
  have HLR := Lib.hid hlr
  have HA := Lib.hid hA
  clear hy hlr hA hll
  go_wp2_with fail
  refine (number27_any A n c l 1 _ (HR.out.mv (by have hs_ := hB.size; repeat (first | with_reducible exact hB | with_reducible (refine Below.setCell ?_ (by simp <;> omega) _) | with_reducible (refine Below.alloc ?_ (by first | exact hs_ | (simp <;> omega)) _) | with_reducible (refine Below.drew ?_)))) hn (by omega)).mono ?_
  rintro e w1 ⟨v1, e1, rfl, h1, bB⟩
  replace hz := Blk.via0 (g := w.heap.size) (t := 23) bB (by repeat (first | with_reducible exact hz | with_reducible (apply Blk.set_) | with_reducible (apply Blk.far; case hp => (simp <;> omega)) | with_reducible (apply Blk.alloc) | with_reducible (apply Blk.drew)))
  replace hz : Blk w1 w.heap.size 23 #[.int .u8 0, .int .i64 0, .int .i64 0] := hz
  replace hB := Below.via (w := w) (by have hs_ := hB.size; repeat (first | with_reducible exact hB | with_reducible (refine Below.setCell ?_ (by simp <;> omega) _) | with_reducible (refine Below.alloc ?_ (by first | exact hs_ | (simp <;> omega)) _) | with_reducible (refine Below.drew ?_))) bB
  clear z1 z2 z3 z4 z5 z6 z7
  clear bB
  have H1 := Lib.hid h1
  have i1 := nrR_rng h1
  clear h1
  have z8 : w1.cell? ⟨w.heap.size, 0, none⟩ = some (.int .u8 0) := (hz.cell 0).trans rfl
  have z9 := hz.frozen 0
  have z10 : w1.cell? ⟨w.heap.size, 1, none⟩ = some (.int .i64 0) := (hz.cell 1).trans rfl
  have z11 := hz.frozen 1
  have z12 : w1.cell? ⟨w.heap.size, 2, none⟩ = some (.int .i64 0) := (hz.cell 2).trans rfl
  have z13 := hz.frozen 2
  have z14 := hz.lt
  go_wp2_with fail
  refine (number27_any A n c l e1 _ (HR.out.mv (by have hs_ := hB.size; repeat (first | with_reducible exact hB | with_reducible (refine Below.setCell ?_ (by simp <;> omega) _) | with_reducible (refine Below.alloc ?_ (by first | exact hs_ | (simp <;> omega)) _) | with_reducible (refine Below.drew ?_)))) hn (by omega)).mono ?_
  rintro e w2 ⟨v2, e2, rfl, h2, bB⟩
  replace hz := Blk.via0 (g := w.heap.size) (t := 23) bB (by repeat (first | with_reducible exact hz | with_reducible (apply Blk.set_) | with_reducible (apply Blk.far; case hp => (simp <;> omega)) | with_reducible (apply Blk.alloc) | with_reducible (apply Blk.drew)))
  replace hz : Blk w2 w.heap.size 23 #[.int .u8 0, .int .i64 0, .int .i64 0] := hz
  replace hB := Below.via (w := w) (by have hs_ := hB.size; repeat (first | with_reducible exact hB | with_reducible (refine Below.setCell ?_ (by simp <;> omega) _) | with_reducible (refine Below.alloc ?_ (by first | exact hs_ | (simp <;> omega)) _) | with_reducible (refine Below.drew ?_))) bB
  clear z8 z9 z10 z11 z12 z13 z14
  clear bB
  have H2 := Lib.hid h2
  have i2 := nrR_rng h2
  clear h2
  have HI := Lib.hid (fun (l0 : List UInt8) (hl0 : l0 = y :: r) (h1 : NrR l0 1 v1 e1) (h2 : NrR l0 e1 v2 e2) => by subst hl0; exact redI h1 h2 : ∀ l0 : List UInt8, l0 = y :: r → NrR l0 1 v1 e1 → NrR l0 e1 v2 e2 → ((e2 ≠ l0.length ∨ 5000 < v2 ∨ 100 < v1) → red l0 = none) ∧ (e2 = l0.length → v2 ≤ 5000 → red l0 = if enB y.toNat (hlf v1) (v2 : Int) = true then some (y.toNat, hlf v1, (v2 : Int)) else none))
  have HJ := Lib.hid (HI.out l HLR.out H1.out H2.out)
  clear HI H1 H2 HLR
  have z15 : w2.cell? ⟨w.heap.size, 0, none⟩ = some (.int .u8 0) := (hz.cell 0).trans rfl
  have z16 := hz.frozen 0
  have z17 : w2.cell? ⟨w.heap.size, 1, none⟩ = some (.int .i64 0) := (hz.cell 1).trans rfl
  have z18 := hz.frozen 1
  have z19 : w2.cell? ⟨w.heap.size, 2, none⟩ = some (.int .i64 0) := (hz.cell 2).trans rfl
  have z20 := hz.frozen 2
  have z21 := hz.lt
  by_cases g : ¬ e2 = (n : Int)
  · have HE := Lib.hid (HJ.out.1 (by have := HL.out; omega))
    have d0 : (e2 != (n : Int)) = true := by simpa using g
    go_wp2_with fail
    refine ret_c1 rfl enT27 rfl (by repeat (first | with_reducible exact hz | with_reducible (apply Blk.set_) | with_reducible (apply Blk.far; case hp => (simp <;> omega)) | with_reducible (apply Blk.alloc) | with_reducible (apply Blk.drew))) (by rfl) ?_
    exact ⟨.inl ⟨HE.out, rfl⟩, (by have hs_ := hB.size; repeat (first | with_reducible exact hB | with_reducible (refine Below.setCell ?_ (by simp <;> omega) _) | with_reducible (refine Below.alloc ?_ (by first | exact hs_ | (simp <;> omega)) _) | with_reducible (refine Below.drew ?_)))⟩
  obtain rfl : e2 = (n : Int) := by omega
  clear g
  by_cases g : 5000 < v2
  · have HE := Lib.hid (HJ.out.1 (by have := HL.out; omega))
    have d0 : (5000 : Int) < (v2 : Int) := by omega
    go_wp2_with fail
    refine ret_c1 rfl enT27 rfl (by repeat (first | with_reducible exact hz | with_reducible (apply Blk.set_) | with_reducible (apply Blk.far; case hp => (simp <;> omega)) | with_reducible (apply Blk.alloc) | with_reducible (apply Blk.drew))) (by rfl) ?_
    exact ⟨.inl ⟨HE.out, rfl⟩, (by have hs_ := hB.size; repeat (first | with_reducible exact hB | with_reducible (refine Below.setCell ?_ (by simp <;> omega) _) | with_reducible (refine Below.alloc ?_ (by first | exact hs_ | (simp <;> omega)) _) | with_reducible (refine Below.drew ?_)))⟩
  have n50 : ¬ (5000 < v2) := g
  clear g
  by_cases g : 100 < v1
  · have HE := Lib.hid (HJ.out.1 (by have := HL.out; omega))
    have d0 : (100 : Int) < (v1 : Int) := by omega
    go_wp2_with fail
    refine ret_c1 rfl enT27 rfl (by repeat (first | with_reducible exact hz | with_reducible (apply Blk.set_) | with_reducible (apply Blk.far; case hp => (simp <;> omega)) | with_reducible (apply Blk.alloc) | with_reducible (apply Blk.drew))) (by rfl) ?_
    exact ⟨.inl ⟨HE.out, rfl⟩, (by have hs_ := hB.size; repeat (first | with_reducible exact hB | with_reducible (refine Below.setCell ?_ (by simp <;> omega) _) | with_reducible (refine Below.alloc ?_ (by first | exact hs_ | (simp <;> omega)) _) | with_reducible (refine Below.drew ?_)))⟩
  have n10 : ¬ (100 < v1) := g
  clear g
  have HF := Lib.hid (HJ.out.2 (by have := HL.out; omega) (by omega))
  clear HJ
  have hw2 : IntKind.i64.wrap (v2 : Int) = (v2 : Int) := by rw [IntKind.wrap_i64]; omega
  have hv1 : v1 < 18446744073709551616 := i1.1
  have hlf1 := hlf_rng hv1
  go_wp2_with fail
  refine bx_go2 (by kernel_rfl) (fun hQ x b => ?_)
  have z22 := hz.lt
  replace hz := Blk.via0 (g := w.heap.size) (t := 23) b (by repeat (first | with_reducible exact hz | with_reducible (apply Blk.set_) | with_reducible (apply Blk.far; case hp => (simp <;> omega)) | with_reducible (apply Blk.alloc) | with_reducible (apply Blk.drew)))
  replace hz : Blk x w.heap.size 23 #[.int .u8 0, .int .i64 0, .int .i64 0] := hz
  replace hB := Below.via (w := w) (by have hs_ := hB.size; repeat (first | with_reducible exact hB | with_reducible (refine Below.setCell ?_ (by simp <;> omega) _) | with_reducible (refine Below.alloc ?_ (by first | exact hs_ | (simp <;> omega)) _) | with_reducible (refine Below.drew ?_))) b
  clear z15 z16 z17 z18 z19 z20 z21 z22
  clear b
  obtain rfl := HA.out
  have hB0 := hB.size
  have g0c : x.cell? ad = some (.int .u8 (y.toNat : Int)) := by
    have h3 := (HR.out.mv hB).byte (k := 0) (by omega)
    obtain ⟨ad', y', hA', _, hy', hc'⟩ := h3
    injection hA' with hA'
    subst hA'
    have e : y' = y := by have h1 := HY.out; rw [hy'] at h1; injection h1
    subst e
    have hz0 : ad.add 0 = ad := by cases ad; unfold Addr.add; split <;> simp_all
    rwa [hz0] at hc'
  have X0 : ∀ W, BelowX x.heap.size x.heap.size x W → W.cell? ad = some (.int .u8 (y.toNat : Int)) := fun W h => ((BelowXe h).cell (by omega)).trans g0c
  have l0 : (0 : Int) < (n : Int) := by omega
  have m0 : 0 < n := by omega
  clear g0c hc0
  obtain ⟨fv, hfv⟩ : ∃ fv, hlf v1 = fv := ⟨_, rfl⟩
  have HH := Lib.hid (fun W => half_any v1 hv1 W)
  rw [hfv] at HH HF hlf1
  clear hfv
  refine bx_take (i := 0) (oi := ?oia0x1) (v := ?va0x1) ?hia0x1 (by kernel_rfl) (by kernel_rfl) (by kernel_rfl) hQ ?hwa0x1 ?hya0x1 ?resta0x1
  case hia0x1 => simp only [List.getElem?_toArray, List.getElem?_cons_zero]; rfl
  case hwa0x1 => rfl
  case hya0x1 => intro W hW; go_simp; with_reducible rfl
  simp only [Act.put, List.setIfInBounds_toArray, List.set_cons_zero, List.set_cons_succ]
  refine bx_take (i := 1) (oi := ?oia1x2) (v := ?va1x2) ?hia1x2 (by kernel_rfl) (by kernel_rfl) (by kernel_rfl) hQ ?hwa1x2 ?hya1x2 ?resta1x2
  case hia1x2 => simp only [List.getElem?_toArray, List.getElem?_cons_zero, List.getElem?_cons_succ]; rfl
  case hwa1x2 => rfl
  case hya1x2 => intro W hW; go_simp; with_reducible rfl
  simp only [Act.put, List.setIfInBounds_toArray, List.set_cons_zero, List.set_cons_succ]
  refine bx_take (i := 2) (oi := ?oia2x3) (v := ?va2x3) ?hia2x3 (by kernel_rfl) (by kernel_rfl) (by kernel_rfl) hQ ?hwa2x3 ?hya2x3 ?resta2x3
  case hia2x3 => simp only [List.getElem?_toArray, List.getElem?_cons_zero, List.getElem?_cons_succ]; rfl
  case hwa2x3 => rfl
  case hya2x3 => intro W hW; go_simp; with_reducible rfl
  simp only [Act.put, List.setIfInBounds_toArray, List.set_cons_zero, List.set_cons_succ]
  refine bx_take (i := 3) (oi := ?oia3x4) (v := ?va3x4) ?hia3x4 (by kernel_rfl) (by kernel_rfl) (by kernel_rfl) hQ ?hwa3x4 ?hya3x4 ?resta3x4
  case hia3x4 => simp only [List.getElem?_toArray, List.getElem?_cons_zero, List.getElem?_cons_succ]; rfl
  case hwa3x4 => rfl
  case hya3x4 => intro W hW; go_simp; with_reducible rfl
  simp only [Act.put, List.setIfInBounds_toArray, List.set_cons_zero, List.set_cons_succ]
  refine bx_take (i := 5) (oi := ?oia5x5) (v := ?va5x5) ?hia5x5 (by kernel_rfl) (by kernel_rfl) (by kernel_rfl) hQ ?hwa5x5 ?hya5x5 ?resta5x5
  case hia5x5 => simp only [List.getElem?_toArray, List.getElem?_cons_zero, List.getElem?_cons_succ]; rfl
  case hwa5x5 => rfl
  case hya5x5 => intro W hW; go_simp; with_reducible rfl
  simp only [Act.put, List.setIfInBounds_toArray, List.set_cons_zero, List.set_cons_succ]
  refine bx_take (i := 6) (oi := ?oia6x6) (v := ?va6x6) ?hia6x6 (by kernel_rfl) (by kernel_rfl) (by kernel_rfl) hQ ?hwa6x6 ?hya6x6 ?resta6x6
  case hia6x6 => simp only [List.getElem?_toArray, List.getElem?_cons_zero, List.getElem?_cons_succ]; rfl
  case hwa6x6 => rfl
  case hya6x6 => intro W hW; go_simp; with_reducible rfl
  simp only [Act.put, List.setIfInBounds_toArray, List.set_cons_zero, List.set_cons_succ]
  refine bx_two (i := 4) (j := 8) (oi := ?oia4x7) (oj := ?oja4x7) (by kernel_rfl) ?hia4x7 ?hja4x7 ?hwa4x7 ?hva4x7 (fun K hK => ?_) (fun K hK => ?_)
  case hia4x7 => simp only [List.getElem?_toArray, List.getElem?_cons_zero, List.getElem?_cons_succ]; rfl
  case hja4x7 => simp only [List.getElem?_toArray, List.getElem?_cons_zero, List.getElem?_cons_succ]; rfl
  case hwa4x7 => rfl
  case hva4x7 => rfl
  · go_simp
    refine (HH.out _).mono ?_; rintro e wq ⟨rfl, rfl⟩; refine hK _ _ (BelowX.refl _ _ _) ?_
    try simp only [Act.put, List.setIfInBounds_toArray, List.set_cons_zero, List.set_cons_succ]
    refine bx_take (i := 7) (oi := ?oia7x8) (v := ?va7x8) ?hia7x8 (by kernel_rfl) (by kernel_rfl) (by kernel_rfl) hQ ?hwa7x8 ?hya7x8 ?resta7x8
    case hia7x8 => simp only [List.getElem?_toArray, List.getElem?_cons_zero, List.getElem?_cons_succ]; rfl
    case hwa7x8 => rfl
    case hya7x8 => intro W hW; go_simp; with_reducible rfl
    simp only [Act.put, List.setIfInBounds_toArray, List.set_cons_zero, List.set_cons_succ]
    refine bx_step (i := 8) (oi := ?oia8x9) (by kernel_rfl) ?hia8x9 ?hwa8x9 (fun K hK => ?_)
    case hia8x9 => simp only [List.getElem?_toArray, List.getElem?_cons_zero, List.getElem?_cons_succ]; rfl
    case hwa8x9 => rfl
    go_simp
    refine hK _ _ (BelowX.al (BelowX.refl _ _ _) (Nat.le_refl _) _) ?_
    try simp only [Act.put, List.setIfInBounds_toArray, List.set_cons_zero, List.set_cons_succ]
    refine bx_step (i := 9) (oi := ?oia9x10) (by kernel_rfl) ?hia9x10 ?hwa9x10 (fun K hK => ?_)
    case hia9x10 => simp only [List.getElem?_toArray, List.getElem?_cons_zero, List.getElem?_cons_succ]; rfl
    case hwa9x10 => rfl
    (have s0 := ((Blk.new x 23 #[.int .u8 0, .int .i64 0, .int .i64 0]).cell 0).trans (show _ = some (.int .u8 0) from rfl); have f0 := (Blk.new x 23 #[.int .u8 0, .int .i64 0, .int .i64 0]).frozen 0; have s1 := ((Blk.new x 23 #[.int .u8 0, .int .i64 0, .int .i64 0]).cell 1).trans (show _ = some (.int .i64 0) from rfl); have f1 := (Blk.new x 23 #[.int .u8 0, .int .i64 0, .int .i64 0]).frozen 1; have s2 := ((Blk.new x 23 #[.int .u8 0, .int .i64 0, .int .i64 0]).cell 2).trans (show _ = some (.int .i64 0) from rfl); have f2 := (Blk.new x 23 #[.int .u8 0, .int .i64 0, .int .i64 0]).frozen 2; go_simp; clear s0 f0 s1 f1 s2 f2; refine hK _ _ (bx_alloc2e (Nat.le_refl _) _ _) ?_)
    try simp only [Act.put, List.setIfInBounds_toArray, List.set_cons_zero, List.set_cons_succ]
    refine wpAnyH_done (by kernel_rfl) ?_ _
    simp only [NoP]
    have hx7 := Blk.new x 23 #[.int .u8 (y.toNat : Int), .int .i64 fv, .int .i64 (v2 : Int)]
    replace hz := hz.alloc (.cells #[.int .u8 (y.toNat : Int), .int .i64 fv, .int .i64 (v2 : Int)] 23)
    replace hB := hB.alloc hB.size (.cells #[.int .u8 (y.toNat : Int), .int .i64 fv, .int .i64 (v2 : Int)] 23)
    have z1 : (x.alloc (.cells #[.int .u8 (y.toNat : Int), .int .i64 fv, .int .i64 (v2 : Int)] 23)).cell? ⟨x.heap.size, 0, none⟩ = some (.int .u8 (y.toNat : Int)) := (hx7.cell 0).trans rfl
    have z2 := hx7.frozen 0
    have z3 : (x.alloc (.cells #[.int .u8 (y.toNat : Int), .int .i64 fv, .int .i64 (v2 : Int)] 23)).cell? ⟨x.heap.size, 1, none⟩ = some (.int .i64 fv) := (hx7.cell 1).trans rfl
    have z4 := hx7.frozen 1
    have z5 : (x.alloc (.cells #[.int .u8 (y.toNat : Int), .int .i64 fv, .int .i64 (v2 : Int)] 23)).cell? ⟨x.heap.size, 2, none⟩ = some (.int .i64 (v2 : Int)) := (hx7.cell 2).trans rfl
    have z6 := hx7.frozen 2
    have z7 : (x.alloc (.cells #[.int .u8 (y.toNat : Int), .int .i64 fv, .int .i64 (v2 : Int)] 23)).cell? ⟨w.heap.size, 0, none⟩ = some (.int .u8 0) := (hz.cell 0).trans rfl
    have z8 := hz.frozen 0
    have z9 : (x.alloc (.cells #[.int .u8 (y.toNat : Int), .int .i64 fv, .int .i64 (v2 : Int)] 23)).cell? ⟨w.heap.size, 1, none⟩ = some (.int .i64 0) := (hz.cell 1).trans rfl
    have z10 := hz.frozen 1
    have z11 : (x.alloc (.cells #[.int .u8 (y.toNat : Int), .int .i64 fv, .int .i64 (v2 : Int)] 23)).cell? ⟨w.heap.size, 2, none⟩ = some (.int .i64 0) := (hz.cell 2).trans rfl
    have z12 := hz.frozen 2
    have z13 := hx7.lt
    have z14 := hz.lt
    go_wp2_with fail
    refine (ended27_any y.toNat fv (v2 : Int) _ (y.toNat_lt)).mono ?_
    rintro e w4 ⟨rfl, bB⟩
    replace hx7 := Blk.via0 (g := x.heap.size) (t := 23) bB (by repeat (first | with_reducible exact hx7 | with_reducible (apply Blk.set_) | with_reducible (apply Blk.far; case hp => (simp <;> omega)) | with_reducible (apply Blk.alloc) | with_reducible (apply Blk.drew)))
    replace hx7 : Blk w4 x.heap.size 23 #[.int .u8 (y.toNat : Int), .int .i64 fv, .int .i64 (v2 : Int)] := hx7
    replace hz := Blk.via0 (g := w.heap.size) (t := 23) bB (by repeat (first | with_reducible exact hz | with_reducible (apply Blk.set_) | with_reducible (apply Blk.far; case hp => (simp <;> omega)) | with_reducible (apply Blk.alloc) | with_reducible (apply Blk.drew)))
    replace hz : Blk w4 w.heap.size 23 #[.int .u8 0, .int .i64 0, .int .i64 0] := hz
    replace hB := Below.via (w := w) (by have hs_ := hB.size; repeat (first | with_reducible exact hB | with_reducible (refine Below.setCell ?_ (by simp <;> omega) _) | with_reducible (refine Below.alloc ?_ (by first | exact hs_ | (simp <;> omega)) _) | with_reducible (refine Below.drew ?_))) bB
    clear z1 z2 z3 z4 z5 z6 z7 z8 z9 z10 z11 z12 z13 z14
    clear bB
    cases hh : enB y.toNat fv (v2 : Int)
    · have HE := Lib.hid (show red l = none from by rw [HF.out, if_neg (by rw [hh]; simp)])
      clear hh
      have z15 : w4.cell? ⟨x.heap.size, 0, none⟩ = some (.int .u8 (y.toNat : Int)) := (hx7.cell 0).trans rfl
      have z16 := hx7.frozen 0
      have z17 : w4.cell? ⟨x.heap.size, 1, none⟩ = some (.int .i64 fv) := (hx7.cell 1).trans rfl
      have z18 := hx7.frozen 1
      have z19 : w4.cell? ⟨x.heap.size, 2, none⟩ = some (.int .i64 (v2 : Int)) := (hx7.cell 2).trans rfl
      have z20 := hx7.frozen 2
      have z21 : w4.cell? ⟨w.heap.size, 0, none⟩ = some (.int .u8 0) := (hz.cell 0).trans rfl
      have z22 := hz.frozen 0
      have z23 : w4.cell? ⟨w.heap.size, 1, none⟩ = some (.int .i64 0) := (hz.cell 1).trans rfl
      have z24 := hz.frozen 1
      have z25 : w4.cell? ⟨w.heap.size, 2, none⟩ = some (.int .i64 0) := (hz.cell 2).trans rfl
      have z26 := hz.frozen 2
      have z27 := hx7.lt
      have z28 := hz.lt
      go_wp2_with fail
      refine ret_c1 rfl enT27 rfl (by repeat (first | with_reducible exact hz | with_reducible (apply Blk.set_) | with_reducible (apply Blk.far; case hp => (simp <;> omega)) | with_reducible (apply Blk.alloc) | with_reducible (apply Blk.drew))) (by rfl) ?_
      exact ⟨.inl ⟨HE.out, rfl⟩, (by have hs_ := hB.size; repeat (first | with_reducible exact hB | with_reducible (refine Below.setCell ?_ (by simp <;> omega) _) | with_reducible (refine Below.alloc ?_ (by first | exact hs_ | (simp <;> omega)) _) | with_reducible (refine Below.drew ?_)))⟩
    · have HE := Lib.hid (show red l = some (y.toNat, fv, (v2 : Int)) from by rw [HF.out, if_pos hh])
      clear hh
      have z15 : w4.cell? ⟨x.heap.size, 0, none⟩ = some (.int .u8 (y.toNat : Int)) := (hx7.cell 0).trans rfl
      have z16 := hx7.frozen 0
      have z17 : w4.cell? ⟨x.heap.size, 1, none⟩ = some (.int .i64 fv) := (hx7.cell 1).trans rfl
      have z18 := hx7.frozen 1
      have z19 : w4.cell? ⟨x.heap.size, 2, none⟩ = some (.int .i64 (v2 : Int)) := (hx7.cell 2).trans rfl
      have z20 := hx7.frozen 2
      have z21 : w4.cell? ⟨w.heap.size, 0, none⟩ = some (.int .u8 0) := (hz.cell 0).trans rfl
      have z22 := hz.frozen 0
      have z23 : w4.cell? ⟨w.heap.size, 1, none⟩ = some (.int .i64 0) := (hz.cell 1).trans rfl
      have z24 := hz.frozen 1
      have z25 : w4.cell? ⟨w.heap.size, 2, none⟩ = some (.int .i64 0) := (hz.cell 2).trans rfl
      have z26 := hz.frozen 2
      have z27 := hx7.lt
      have z28 := hz.lt
      go_wp2_with fail
      refine ret_c1 rfl enT27 rfl (by repeat (first | with_reducible exact hz | with_reducible (apply Blk.set_) | with_reducible (apply Blk.far; case hp => (simp <;> omega)) | with_reducible (apply Blk.alloc) | with_reducible (apply Blk.drew))) (by rfl) ?_
      exact ⟨.inr ⟨_, _, _, HE.out, rfl⟩, (by have hs_ := hB.size; repeat (first | with_reducible exact hB | with_reducible (refine Below.setCell ?_ (by simp <;> omega) _) | with_reducible (refine Below.alloc ?_ (by first | exact hs_ | (simp <;> omega)) _) | with_reducible (refine Below.drew ?_)))⟩
  · go_simp
    refine hK _ _ (BelowX.al (BelowX.refl _ _ _) (Nat.le_refl _) _) ?_
    try simp only [Act.put, List.setIfInBounds_toArray, List.set_cons_zero, List.set_cons_succ]
    refine bx_step (i := 4) (oi := ?oia4x11) (by kernel_rfl) ?hia4x11 ?hwa4x11 (fun K hK => ?_)
    case hia4x11 => simp only [List.getElem?_toArray, List.getElem?_cons_zero, List.getElem?_cons_succ]; rfl
    case hwa4x11 => rfl
    go_simp
    refine (HH.out _).mono ?_; rintro e wq ⟨rfl, rfl⟩; refine hK _ _ (BelowX.refl _ _ _) ?_
    try simp only [Act.put, List.setIfInBounds_toArray, List.set_cons_zero, List.set_cons_succ]
    refine bx_take (i := 7) (oi := ?oia7x12) (v := ?va7x12) ?hia7x12 (by kernel_rfl) (by kernel_rfl) (by kernel_rfl) hQ ?hwa7x12 ?hya7x12 ?resta7x12
    case hia7x12 => simp only [List.getElem?_toArray, List.getElem?_cons_zero, List.getElem?_cons_succ]; rfl
    case hwa7x12 => rfl
    case hya7x12 => intro W hW; go_simp; with_reducible rfl
    simp only [Act.put, List.setIfInBounds_toArray, List.set_cons_zero, List.set_cons_succ]
    refine bx_step (i := 9) (oi := ?oia9x13) (by kernel_rfl) ?hia9x13 ?hwa9x13 (fun K hK => ?_)
    case hia9x13 => simp only [List.getElem?_toArray, List.getElem?_cons_zero, List.getElem?_cons_succ]; rfl
    case hwa9x13 => rfl
    (have s0 := ((Blk.new x 23 #[.int .u8 0, .int .i64 0, .int .i64 0]).cell 0).trans (show _ = some (.int .u8 0) from rfl); have f0 := (Blk.new x 23 #[.int .u8 0, .int .i64 0, .int .i64 0]).frozen 0; have s1 := ((Blk.new x 23 #[.int .u8 0, .int .i64 0, .int .i64 0]).cell 1).trans (show _ = some (.int .i64 0) from rfl); have f1 := (Blk.new x 23 #[.int .u8 0, .int .i64 0, .int .i64 0]).frozen 1; have s2 := ((Blk.new x 23 #[.int .u8 0, .int .i64 0, .int .i64 0]).cell 2).trans (show _ = some (.int .i64 0) from rfl); have f2 := (Blk.new x 23 #[.int .u8 0, .int .i64 0, .int .i64 0]).frozen 2; go_simp; clear s0 f0 s1 f1 s2 f2; refine hK _ _ (bx_alloc2e (Nat.le_refl _) _ _) ?_)
    try simp only [Act.put, List.setIfInBounds_toArray, List.set_cons_zero, List.set_cons_succ]
    refine wpAnyH_done (by kernel_rfl) ?_ _
    simp only [NoP]
    have hx7 := Blk.new x 23 #[.int .u8 (y.toNat : Int), .int .i64 fv, .int .i64 (v2 : Int)]
    replace hz := hz.alloc (.cells #[.int .u8 (y.toNat : Int), .int .i64 fv, .int .i64 (v2 : Int)] 23)
    replace hB := hB.alloc hB.size (.cells #[.int .u8 (y.toNat : Int), .int .i64 fv, .int .i64 (v2 : Int)] 23)
    have z1 : (x.alloc (.cells #[.int .u8 (y.toNat : Int), .int .i64 fv, .int .i64 (v2 : Int)] 23)).cell? ⟨x.heap.size, 0, none⟩ = some (.int .u8 (y.toNat : Int)) := (hx7.cell 0).trans rfl
    have z2 := hx7.frozen 0
    have z3 : (x.alloc (.cells #[.int .u8 (y.toNat : Int), .int .i64 fv, .int .i64 (v2 : Int)] 23)).cell? ⟨x.heap.size, 1, none⟩ = some (.int .i64 fv) := (hx7.cell 1).trans rfl
    have z4 := hx7.frozen 1
    have z5 : (x.alloc (.cells #[.int .u8 (y.toNat : Int), .int .i64 fv, .int .i64 (v2 : Int)] 23)).cell? ⟨x.heap.size, 2, none⟩ = some (.int .i64 (v2 : Int)) := (hx7.cell 2).trans rfl
    have z6 := hx7.frozen 2
    have z7 : (x.alloc (.cells #[.int .u8 (y.toNat : Int), .int .i64 fv, .int .i64 (v2 : Int)] 23)).cell? ⟨w.heap.size, 0, none⟩ = some (.int .u8 0) := (hz.cell 0).trans rfl
    have z8 := hz.frozen 0
    have z9 : (x.alloc (.cells #[.int .u8 (y.toNat : Int), .int .i64 fv, .int .i64 (v2 : Int)] 23)).cell? ⟨w.heap.size, 1, none⟩ = some (.int .i64 0) := (hz.cell 1).trans rfl
    have z10 := hz.frozen 1
    have z11 : (x.alloc (.cells #[.int .u8 (y.toNat : Int), .int .i64 fv, .int .i64 (v2 : Int)] 23)).cell? ⟨w.heap.size, 2, none⟩ = some (.int .i64 0) := (hz.cell 2).trans rfl
    have z12 := hz.frozen 2
    have z13 := hx7.lt
    have z14 := hz.lt
    go_wp2_with fail
    refine (ended27_any y.toNat fv (v2 : Int) _ (y.toNat_lt)).mono ?_
    rintro e w4 ⟨rfl, bB⟩
    replace hx7 := Blk.via0 (g := x.heap.size) (t := 23) bB (by repeat (first | with_reducible exact hx7 | with_reducible (apply Blk.set_) | with_reducible (apply Blk.far; case hp => (simp <;> omega)) | with_reducible (apply Blk.alloc) | with_reducible (apply Blk.drew)))
    replace hx7 : Blk w4 x.heap.size 23 #[.int .u8 (y.toNat : Int), .int .i64 fv, .int .i64 (v2 : Int)] := hx7
    replace hz := Blk.via0 (g := w.heap.size) (t := 23) bB (by repeat (first | with_reducible exact hz | with_reducible (apply Blk.set_) | with_reducible (apply Blk.far; case hp => (simp <;> omega)) | with_reducible (apply Blk.alloc) | with_reducible (apply Blk.drew)))
    replace hz : Blk w4 w.heap.size 23 #[.int .u8 0, .int .i64 0, .int .i64 0] := hz
    replace hB := Below.via (w := w) (by have hs_ := hB.size; repeat (first | with_reducible exact hB | with_reducible (refine Below.setCell ?_ (by simp <;> omega) _) | with_reducible (refine Below.alloc ?_ (by first | exact hs_ | (simp <;> omega)) _) | with_reducible (refine Below.drew ?_))) bB
    clear z1 z2 z3 z4 z5 z6 z7 z8 z9 z10 z11 z12 z13 z14
    clear bB
    cases hh : enB y.toNat fv (v2 : Int)
    · have HE := Lib.hid (show red l = none from by rw [HF.out, if_neg (by rw [hh]; simp)])
      clear hh
      have z15 : w4.cell? ⟨x.heap.size, 0, none⟩ = some (.int .u8 (y.toNat : Int)) := (hx7.cell 0).trans rfl
      have z16 := hx7.frozen 0
      have z17 : w4.cell? ⟨x.heap.size, 1, none⟩ = some (.int .i64 fv) := (hx7.cell 1).trans rfl
      have z18 := hx7.frozen 1
      have z19 : w4.cell? ⟨x.heap.size, 2, none⟩ = some (.int .i64 (v2 : Int)) := (hx7.cell 2).trans rfl
      have z20 := hx7.frozen 2
      have z21 : w4.cell? ⟨w.heap.size, 0, none⟩ = some (.int .u8 0) := (hz.cell 0).trans rfl
      have z22 := hz.frozen 0
      have z23 : w4.cell? ⟨w.heap.size, 1, none⟩ = some (.int .i64 0) := (hz.cell 1).trans rfl
      have z24 := hz.frozen 1
      have z25 : w4.cell? ⟨w.heap.size, 2, none⟩ = some (.int .i64 0) := (hz.cell 2).trans rfl
      have z26 := hz.frozen 2
      have z27 := hx7.lt
      have z28 := hz.lt
      go_wp2_with fail
      refine ret_c1 rfl enT27 rfl (by repeat (first | with_reducible exact hz | with_reducible (apply Blk.set_) | with_reducible (apply Blk.far; case hp => (simp <;> omega)) | with_reducible (apply Blk.alloc) | with_reducible (apply Blk.drew))) (by rfl) ?_
      exact ⟨.inl ⟨HE.out, rfl⟩, (by have hs_ := hB.size; repeat (first | with_reducible exact hB | with_reducible (refine Below.setCell ?_ (by simp <;> omega) _) | with_reducible (refine Below.alloc ?_ (by first | exact hs_ | (simp <;> omega)) _) | with_reducible (refine Below.drew ?_)))⟩
    · have HE := Lib.hid (show red l = some (y.toNat, fv, (v2 : Int)) from by rw [HF.out, if_pos hh])
      clear hh
      have z15 : w4.cell? ⟨x.heap.size, 0, none⟩ = some (.int .u8 (y.toNat : Int)) := (hx7.cell 0).trans rfl
      have z16 := hx7.frozen 0
      have z17 : w4.cell? ⟨x.heap.size, 1, none⟩ = some (.int .i64 fv) := (hx7.cell 1).trans rfl
      have z18 := hx7.frozen 1
      have z19 : w4.cell? ⟨x.heap.size, 2, none⟩ = some (.int .i64 (v2 : Int)) := (hx7.cell 2).trans rfl
      have z20 := hx7.frozen 2
      have z21 : w4.cell? ⟨w.heap.size, 0, none⟩ = some (.int .u8 0) := (hz.cell 0).trans rfl
      have z22 := hz.frozen 0
      have z23 : w4.cell? ⟨w.heap.size, 1, none⟩ = some (.int .i64 0) := (hz.cell 1).trans rfl
      have z24 := hz.frozen 1
      have z25 : w4.cell? ⟨w.heap.size, 2, none⟩ = some (.int .i64 0) := (hz.cell 2).trans rfl
      have z26 := hz.frozen 2
      have z27 := hx7.lt
      have z28 := hz.lt
      go_wp2_with fail
      refine ret_c1 rfl enT27 rfl (by repeat (first | with_reducible exact hz | with_reducible (apply Blk.set_) | with_reducible (apply Blk.far; case hp => (simp <;> omega)) | with_reducible (apply Blk.alloc) | with_reducible (apply Blk.drew))) (by rfl) ?_
      exact ⟨.inr ⟨_, _, _, HE.out, rfl⟩, (by have hs_ := hB.size; repeat (first | with_reducible exact hB | with_reducible (refine Below.setCell ?_ (by simp <;> omega) _) | with_reducible (refine Below.alloc ?_ (by first | exact hs_ | (simp <;> omega)) _) | with_reducible (refine Below.drew ?_)))⟩

end Go.Proofs.Ytljpggebpfpelaa
