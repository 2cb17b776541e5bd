/- Contracts and laws of a chapter that its statement of names leans on. Each states its conditions. -/
import Derived.Test.YtldaijkcmnnjpaaWireBackLaw
import Derived.Test.YtldaijkcmnnjpaaRet2
namespace Go.Proofs.Ytldaijkcmnnjpaa
open Go.RowKit Wire
set_option linter.unusedVariables false
/-- A region as a value. -/
abbrev rgn (b : Nat) (A : Option Addr) (n c : Nat) : Value := .agg #[.int .u64 (b : Int), .slice A n c]
def fitB (b base n most : Nat) : Bool := decide (b = base) && (decide (n ≤ most) && decide (n % 8 = 0))
def hpB (b n : Nat) : Bool := fitB b 65536 n 16384
set_option maxRecDepth 100000 in
set_option maxHeartbeats 1600000 in
theorem fits_any (b : Nat) (A : Option Addr) (n c : Nat) (base most : Nat) (w : World) :
    Calls Try.prog 101 #[rgn b A n c, .int .u64 (base : Int), .int .i64 (most : Int)] w fun e w' => e = .returned (.bool (fitB b base n most)) ∧ Below w.heap.size w w' := by
  have hB := (Below.refl w.heap.size w).alloc (Nat.le_refl _) (.cells #[.int .u64 (b : Int), .slice A n c] 75)
  by_cases h1 : b = base
  rotate_left
  · have d1 : ((b : Int) == (base : Int)) = false := by rw [beq_eq_false_iff_ne]; omega

    have HE := Lib.hid (show fitB b base n most = false from by simp [fitB, h1])
    go_enter Try.func101, Try.ntmps101
    go_wp2_with fail
    go_ret
    exact ⟨by rw [HE.out]; rfl, hB⟩

  have d1 : ((b : Int) == (base : Int)) = true := by simp; omega
  have H1 := Lib.hid h1
  clear h1
  by_cases h2 : n ≤ most
  rotate_left
  · have d2 : decide ((n : Int) ≤ (most : Int)) = false := by simp; omega

    have HE := Lib.hid (show fitB b base n most = false from by simp [fitB, h2])
    go_enter Try.func101, Try.ntmps101
    go_wp2_with fail
    go_ret
    exact ⟨by rw [HE.out]; rfl, hB⟩

  have d2 : decide ((n : Int) ≤ (most : Int)) = true := by simp; omega
  by_cases h3 : n % 8 = 0
  rotate_left
  · have d3 : ((n : Int) % 8 == 0) = false := by rw [beq_eq_false_iff_ne]; omega
    have d4 : decide (n % 8 = 0) = false := by simpa using h3

    have HE := Lib.hid (show fitB b base n most = false from by simp [fitB, h3])
    go_enter Try.func101, Try.ntmps101
    go_wp2_with fail
    go_ret
    exact ⟨by rw [HE.out]; rfl, hB⟩

  have d3 : ((n : Int) % 8 == 0) = true := by simp; omega
  have HE := Lib.hid (show fitB b base n most = true from by simp [fitB, H1.out, h2, h3])
  have H3 := Lib.hid h3
  clear h3
  go_enter Try.func101, Try.ntmps101
  go_wp2_with fail
  go_ret
  exact ⟨by rw [HE.out]; rfl, hB⟩
set_option maxRecDepth 100000 in
set_option maxHeartbeats 1600000 in
theorem isHeap_any (b : Nat) (A : Option Addr) (n c : Nat) (w : World) :
    Calls Try.prog 72 #[rgn b A n c] w fun e w' => e = .returned (.bool (hpB b n)) ∧ Below w.heap.size w w' := by
  have hB := (Below.refl w.heap.size w).alloc (Nat.le_refl _) (.cells #[.int .u64 (b : Int), .slice A n c] 75)
  have HF := Lib.hid (fun W => fits_any b A n c 65536 16384 W)
  go_enter Try.func72, Try.ntmps72
  go_wp2_with fail
  refine (HF.out _).mono ?_
  rintro e w1 ⟨rfl, b1⟩
  go_wp2_with fail
  go_ret
  exact ⟨rfl, hB.trans (b1.mono hB.size)⟩
/-- What WriteHeap answers. -/
def whL (b : Nat) (l : List UInt8) : List UInt8 := if hpB b l.length then vry l.length ++ l else []
def whE (b : Nat) (l : List UInt8) : Int := if hpB b l.length then 0 else 8
set_option maxRecDepth 100000 in
set_option maxHeartbeats 3200000 in
theorem writeHeap_any (b : Nat) (A : Option Addr) (n c : Nat) (l : List UInt8) (w : World) (hr : Rb w A n l) :
    Calls Try.prog 33 #[rgn b A n c] w fun e w' => ∃ A' c', e = .returned (.tuple #[.slice A' (whL b l).length c', .int .i64 (whE b l)]) ∧ w'.ownsRow w.heap.size 5 1 (.slice A' (whL b l).length c') (whL b l).length ((whL b l).map b8) ∧ Below w.heap.size w w' := by
  have HL := Lib.hid hr.len8
  have hB := (Below.refl w.heap.size w).alloc (Nat.le_refl _) (.cells #[.int .u64 (b : Int), .slice A n c] 75)
  have hk := Blk.new w 75 #[.int .u64 (b : Int), .slice A n c]
  have R := hr.mv hB
  clear hr
  cases hh : hpB b n
  · have HV := Lib.hid (show whL b l = [] ∧ whE b l = 8 from by constructor <;> simp [whL, whE, HL.out, hh])
    have HH := Lib.hid hh
    clear hh
    go_enter Try.func33, Try.ntmps33
    go_wp2_with fail
    refine (isHeap_any b A n c _).mono ?_
    rintro e w1 ⟨rfl, b1⟩
    rw [HH.out]
    have hB1 := hB.trans (b1.mono hB.size)
    have hk1 := hk.below b1 hk.lt
    have R1 := R.mv b1
    have z0 : w1.cell? ⟨w.heap.size, 0, none⟩ = some (.int .u64 (b : Int)) := (hk1.cell 0).trans rfl
    have z1 : w1.cell? ⟨w.heap.size, 1, none⟩ = some (.slice A n c) := (hk1.cell 1).trans rfl

    go_wp2_with fail
    go_ret2
    exact ⟨none, 0, by rw [HV.out.1, HV.out.2]; rfl, by rw [HV.out.1]; exact World.ownsRow_nil _ _ _ _, hB1⟩
  have HV := Lib.hid (show whL b l = vry n ++ l ∧ whE b l = 0 from by constructor <;> simp [whL, whE, HL.out, hh])
  have hn : n ≤ 16384 := by
    have h := hh
    simp [hpB, fitB] at h
    omega
  have HH := Lib.hid hh
  clear hh
  have HN := Lib.hid (show (vry n ++ l).length = (vry n).length + n from by rw [List.length_append, HL.out])
  have hv := (vry_len n).2
  rw [HV.out.1, HV.out.2, HN.out]
  go_enter Try.func33, Try.ntmps33
  go_wp2_with fail
  refine (isHeap_any b A n c _).mono ?_
  rintro e w1 ⟨rfl, b1⟩
  rw [HH.out]
  have hB1 := hB.trans (b1.mono hB.size)
  have hk1 := hk.below b1 hk.lt
  have R1 := R.mv b1
  have z0 : w1.cell? ⟨w.heap.size, 0, none⟩ = some (.int .u64 (b : Int)) := (hk1.cell 0).trans rfl
  have z1 : w1.cell? ⟨w.heap.size, 1, none⟩ = some (.slice A n c) := (hk1.cell 1).trans rfl
  go_wp2_with fail
  refine bx_start (w1.heap.size) (w1.heap.size) (by kernel_rfl) (fun hQ => ?_)
  have hk2 := hk1.drew
  have hB2 := hB1.drew
  have R2 := Reads.drew R1
  have hx : w1.heap.size = w1.drew.heap.size := rfl
  have hlt := hk1.lt
  have X0 : ∀ W, BelowX w1.heap.size w1.heap.size w1.drew W → W.cell? ⟨w.heap.size, 0, none⟩ = some (.int .u64 (b : Int)) := fun W h => ((hk2.belowx h hlt (by omega)).cell 0).trans rfl
  have X1 : ∀ W, BelowX w1.heap.size w1.heap.size w1.drew W → W.cell? ⟨w.heap.size, 1, none⟩ = some (.slice A n c) := fun W h => ((hk2.belowx h hlt (by omega)).cell 1).trans rfl
  have hw0 : IntKind.u64.wrap (n : Int) = (n : Int) := by rw [IntKind.wrap_u64]; omega
  have HX := Lib.hid hx
  clear hx z0 z1 hk1 hB1 R1
  generalize hg : w1.drew = x at *
  have HG := Lib.hid hg
  clear hg
  refine bx_take (i := 0) (oi := ?oia0) (v := ?va0) ?hia0 (by kernel_rfl) (by kernel_rfl) (by kernel_rfl) hQ ?hwa0 ?hya0 ?resta0
  case hia0 => simp only [List.getElem?_toArray, List.getElem?_cons_zero]; rfl
  case hwa0 => rfl
  case hya0 => intro W hW; go_simp; with_reducible rfl
  simp only [Act.put, List.setIfInBounds_toArray, List.set_cons_zero, List.set_cons_succ]
  refine bx_take (i := 1) (oi := ?oia1) (v := ?va1) ?hia1 (by kernel_rfl) (by kernel_rfl) (by kernel_rfl) hQ ?hwa1 ?hya1 ?resta1
  case hia1 => simp only [List.getElem?_toArray, List.getElem?_cons_zero, List.getElem?_cons_succ]; rfl
  case hwa1 => rfl
  case hya1 => intro W hW; go_simp; with_reducible rfl
  simp only [Act.put, List.setIfInBounds_toArray, List.set_cons_zero, List.set_cons_succ]
  refine bx_take (i := 2) (oi := ?oia2) (v := ?va2) ?hia2 (by kernel_rfl) (by kernel_rfl) (by kernel_rfl) hQ ?hwa2 ?hya2 ?resta2
  case hia2 => simp only [List.getElem?_toArray, List.getElem?_cons_zero, List.getElem?_cons_succ]; rfl
  case hwa2 => rfl
  case hya2 => intro W hW; go_simp; with_reducible rfl
  simp only [Act.put, List.setIfInBounds_toArray, List.set_cons_zero, List.set_cons_succ]
  refine bx_take (i := 3) (oi := ?oia3) (v := ?va3) ?hia3 (by kernel_rfl) (by kernel_rfl) (by kernel_rfl) hQ ?hwa3 ?hya3 ?resta3
  case hia3 => simp only [List.getElem?_toArray, List.getElem?_cons_zero, List.getElem?_cons_succ]; rfl
  case hwa3 => rfl
  case hya3 => intro W hW; go_simp; with_reducible rfl
  simp only [Act.put, List.setIfInBounds_toArray, List.set_cons_zero, List.set_cons_succ]
  refine bx_take (i := 5) (oi := ?oia5) (v := ?va5) ?hia5 (by kernel_rfl) (by kernel_rfl) (by kernel_rfl) hQ ?hwa5 ?hya5 ?resta5
  case hia5 => simp only [List.getElem?_toArray, List.getElem?_cons_zero, List.getElem?_cons_succ]; rfl
  case hwa5 => rfl
  case hya5 => intro W hW; go_simp; with_reducible rfl
  simp only [Act.put, List.setIfInBounds_toArray, List.set_cons_zero, List.set_cons_succ]
  refine bx_take (i := 6) (oi := ?oia6) (v := ?va6) ?hia6 (by kernel_rfl) (by kernel_rfl) (by kernel_rfl) hQ ?hwa6 ?hya6 ?resta6
  case hia6 => simp only [List.getElem?_toArray, List.getElem?_cons_zero, List.getElem?_cons_succ]; rfl
  case hwa6 => rfl
  case hya6 => intro W hW; go_simp; with_reducible rfl
  simp only [Act.put, List.setIfInBounds_toArray, List.set_cons_zero, List.set_cons_succ]
  refine bx_step (i := 4) (oi := ?oia4) (by kernel_rfl) ?hia4 ?hwa4 (fun K hK => ?_)
  case hia4 => simp only [List.getElem?_toArray, List.getElem?_cons_zero, List.getElem?_cons_succ]; rfl
  case hwa4 => rfl
  go_simp
  refine (vary_any n (by omega) _).mono ?_; rintro e w3 ⟨A3, c3, rfl, o3, b⟩; have R3 := R2.below (Below.mono b (Nat.le_of_eq HX.out)); have hB3 := hB2.trans (b.mono hB2.size); have hsz := b.size; refine hK _ _ (BelowX.of (Below.mono b (Nat.le_of_eq HX.out)) _) ?_
  try simp only [Act.put, List.setIfInBounds_toArray, List.set_cons_zero, List.set_cons_succ]
  refine bx_step (i := 7) (oi := ?oia7) (by kernel_rfl) ?hia7 ?hwa7 (fun K hK => ?_)
  case hia7 => simp only [List.getElem?_toArray, List.getElem?_cons_zero, List.getElem?_cons_succ]; rfl
  case hwa7 => rfl
  (refine wp_app8 (.tmp 11) (.tmp 13) _ (by rfl) sl8 x.heap.size (by rfl) o3 (by rfl) R3 ((vry n).length + n) rfl (by omega) hsz ?_; intro A4 c4 w4 o4 b4; have hB4 := hB3.trans (b4.mono hB2.size); refine hK _ _ (BelowX.of (Below.mono b4 (Nat.le_of_eq HX.out)) _) ?_)
  try simp only [Act.put, List.setIfInBounds_toArray, List.set_cons_zero, List.set_cons_succ]
  refine bx_take (i := 8) (oi := ?oia8) (v := ?va8) ?hia8 (by kernel_rfl) (by kernel_rfl) (by kernel_rfl) hQ ?hwa8 ?hya8 ?resta8
  case hia8 => simp only [List.getElem?_toArray, List.getElem?_cons_zero, List.getElem?_cons_succ]; rfl
  case hwa8 => rfl
  case hya8 => intro W hW; go_simp; with_reducible rfl
  simp only [Act.put, List.setIfInBounds_toArray, List.set_cons_zero, List.set_cons_succ]
  refine bx_take (i := 9) (oi := ?oia9) (v := ?va9) ?hia9 (by kernel_rfl) (by kernel_rfl) (by kernel_rfl) hQ ?hwa9 ?hya9 ?resta9
  case hia9 => simp only [List.getElem?_toArray, List.getElem?_cons_zero, List.getElem?_cons_succ]; rfl
  case hwa9 => rfl
  case hya9 => intro W hW; go_simp; with_reducible rfl
  simp only [Act.put, List.setIfInBounds_toArray, List.set_cons_zero, List.set_cons_succ]
  refine wpAnyH_done (by kernel_rfl) ?_ _
  simp only [NoP]
  go_wp2_with fail
  go_ret2
  exact ⟨A4, c4, rfl, own_low o4 hB2.size, hB4⟩

end Go.Proofs.Ytldaijkcmnnjpaa
