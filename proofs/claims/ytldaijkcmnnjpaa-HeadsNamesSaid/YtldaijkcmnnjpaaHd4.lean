/- Contracts and laws of a chapter that its statement of names leans on. Each states its conditions. -/
import Derived.Test.YtldaijkcmnnjpaaHd3
import Derived.Test.YtldaijkcmnnjpaaWk
namespace Go.Proofs.Ytldaijkcmnnjpaa
open Go.RowKit Wire
set_option linter.unusedVariables false
/-- The bytes of an end. -/
def endL (x : Nat) (f s : Int) : List UInt8 := UInt8.ofNat x :: (vry (dbl f) ++ vry s.toNat)
def weL (x : Nat) (f s : Int) : List UInt8 := if enB x f s then endL x f s else []
def weE (x : Nat) (f s : Int) : Int := if enB x f s then 0 else 8
theorem own_byte {w : World} {base x : Nat} (hb : base ≤ w.heap.size) (hx : x < 256) : (w.alloc (.cells #[.int .u8 (x : Int)] 5)).ownsRow base 5 1 (.slice (some ⟨w.heap.size, 0, none⟩) 1 1) 1 ([UInt8.ofNat x].map b8) := by
  refine ⟨by simp, .inr ⟨w.heap.size, 1, #[.int .u8 (x : Int)], rfl, hb, heap_alloc_new w _, Nat.le_refl _, ?_, ?_, ?_⟩⟩
  · unfold maxLen; omega
  · simp
  · simp [b8_ofNat hx]
theorem enB_steps {x : Nat} {f s : Int} (h : enB x f s = true) : 0 ≤ s ∧ s ≤ 5000 := by
  simp only [enB, Bool.and_eq_true, decide_eq_true_eq] at h; omega
set_option maxRecDepth 100000 in
set_option maxHeartbeats 3200000 in
theorem writeEnded_any (x : Nat) (f s : Int) (w : World) (hx : x < 256) (hf : -9223372036854775808 ≤ f ∧ f ≤ 9223372036854775807) :
    Calls Try.prog 40 #[endV x f s] w fun e w' => ∃ A' c', e = .returned (.tuple #[.slice A' (weL x f s).length c', .int .i64 (weE x f s)]) ∧ w'.ownsRow w.heap.size 5 1 (.slice A' (weL x f s).length c') (weL x f s).length ((weL x f s).map b8) ∧ Below w.heap.size w w' := by
  obtain ⟨D, hD⟩ : ∃ D, vry (dbl f) = D := ⟨_, rfl⟩
  have hDl : D.length ≤ 10 := by rw [← hD]; exact (vry_len _).2
  have HSG := Lib.hid (fun W => signed_any f hf W)
  rw [hD] at HSG
  have HDD := Lib.hid hD
  clear hD
  cases hen : enB x f s
  · have HV := Lib.hid (show weL x f s = [] ∧ weE x f s = 8 from by simp [weL, weE, hen])
    have HEN := Lib.hid hen
    clear hen
    have hB : Below w.heap.size w (w.alloc (.cells #[.int .u8 (x : Int), .int .i64 f, .int .i64 s] 89)) := (Below.alloc (Below.refl w.heap.size w) (by simp <;> omega) (.cells #[.int .u8 (x : Int), .int .i64 f, .int .i64 s] 89))
    have hk := Blk.new w 89 #[.int .u8 (x : Int), .int .i64 f, .int .i64 s]
    go_enter Try.func40, Try.ntmps40
    have z1 : (w.alloc (.cells #[.int .u8 (x : Int), .int .i64 f, .int .i64 s] 89)).cell? ⟨w.heap.size, 0, none⟩ = some (.int .u8 (x : Int)) := (hk.cell 0).trans rfl
    have z2 := hk.frozen 0
    have z3 : (w.alloc (.cells #[.int .u8 (x : Int), .int .i64 f, .int .i64 s] 89)).cell? ⟨w.heap.size, 1, none⟩ = some (.int .i64 f) := (hk.cell 1).trans rfl
    have z4 := hk.frozen 1
    have z5 : (w.alloc (.cells #[.int .u8 (x : Int), .int .i64 f, .int .i64 s] 89)).cell? ⟨w.heap.size, 2, none⟩ = some (.int .i64 s) := (hk.cell 2).trans rfl
    have z6 := hk.frozen 2
    have z7 := hk.lt
    go_wp2_with fail
    with_reducible refine (isEnded_any x f s _ hx).mono ?_
    rintro e w1 ⟨rfl, bB⟩
    rw [HEN.out]
    replace hk := Blk.via0 (g := w.heap.size) (t := 89) bB (by repeat (first | with_reducible exact hk | with_reducible (apply Blk.set_) | with_reducible (apply Blk.far; case hp => (simp <;> omega)) | with_reducible (apply Blk.alloc) | with_reducible (apply Blk.drew)))
    replace hk : Blk w1 w.heap.size 89 #[.int .u8 (x : Int), .int .i64 f, .int .i64 s] := hk
    replace hB := Below.via (w := w) (by have hs_ := hB.size; repeat (first | with_reducible exact hB | with_reducible (refine Below.setCell ?_ (by simp <;> omega) _) | with_reducible (refine Below.alloc ?_ (by first | exact hs_ | (simp <;> omega)) _) | with_reducible (refine Below.drew ?_))) bB
    clear z1 z2 z3 z4 z5 z6 z7
    clear bB
    have z8 : w1.cell? ⟨w.heap.size, 0, none⟩ = some (.int .u8 (x : Int)) := (hk.cell 0).trans rfl
    have z9 := hk.frozen 0
    have z10 : w1.cell? ⟨w.heap.size, 1, none⟩ = some (.int .i64 f) := (hk.cell 1).trans rfl
    have z11 := hk.frozen 1
    have z12 : w1.cell? ⟨w.heap.size, 2, none⟩ = some (.int .i64 s) := (hk.cell 2).trans rfl
    have z13 := hk.frozen 2
    have z14 := hk.lt
    go_wp2_with fail
    go_ret2
    exact ⟨none, 0, by rw [HV.out.1, HV.out.2]; rfl, by rw [HV.out.1]; exact World.ownsRow_nil _ _ _ _, (by have hs_ := hB.size; repeat (first | with_reducible exact hB | with_reducible (refine Below.setCell ?_ (by simp <;> omega) _) | with_reducible (refine Below.alloc ?_ (by first | exact hs_ | (simp <;> omega)) _) | with_reducible (refine Below.drew ?_)))⟩
  have hs := enB_steps hen
  obtain ⟨E, hE⟩ : ∃ E, endL x f s = E := ⟨_, rfl⟩
  have HV := Lib.hid (show weL x f s = E ∧ weE x f s = 0 from by simp [weL, weE, hen, hE])
  have HEN := Lib.hid hen
  clear hen
  obtain ⟨u, hu⟩ : ∃ u : Nat, s = (u : Int) := ⟨s.toNat, by omega⟩
  have hsn : IntKind.u64.wrap s = (u : Int) := by rw [IntKind.wrap_u64]; omega
  have hun : s.toNat = u := by omega
  have HE := Lib.hid (show ([UInt8.ofNat x] ++ D) ++ vrs [u] = E from by rw [← hE, endL, HDD.out, hun]; simp [vrs])
  have hu5 : u ≤ 5000 := by omega
  have hu5 : u ≤ 5000 := by omega
  clear hE hu hun
  have hB : Below w.heap.size w (w.alloc (.cells #[.int .u8 (x : Int), .int .i64 f, .int .i64 s] 89)) := (Below.alloc (Below.refl w.heap.size w) (by simp <;> omega) (.cells #[.int .u8 (x : Int), .int .i64 f, .int .i64 s] 89))
  have hk := Blk.new w 89 #[.int .u8 (x : Int), .int .i64 f, .int .i64 s]
  go_enter Try.func40, Try.ntmps40
  have z1 : (w.alloc (.cells #[.int .u8 (x : Int), .int .i64 f, .int .i64 s] 89)).cell? ⟨w.heap.size, 0, none⟩ = some (.int .u8 (x : Int)) := (hk.cell 0).trans rfl
  have z2 := hk.frozen 0
  have z3 : (w.alloc (.cells #[.int .u8 (x : Int), .int .i64 f, .int .i64 s] 89)).cell? ⟨w.heap.size, 1, none⟩ = some (.int .i64 f) := (hk.cell 1).trans rfl
  have z4 := hk.frozen 1
  have z5 : (w.alloc (.cells #[.int .u8 (x : Int), .int .i64 f, .int .i64 s] 89)).cell? ⟨w.heap.size, 2, none⟩ = some (.int .i64 s) := (hk.cell 2).trans rfl
  have z6 := hk.frozen 2
  have z7 := hk.lt
  go_wp2_with fail
  with_reducible refine (isEnded_any x f s _ hx).mono ?_
  rintro e w1 ⟨rfl, bB⟩
  rw [HEN.out]
  replace hk := Blk.via0 (g := w.heap.size) (t := 89) bB (by repeat (first | with_reducible exact hk | with_reducible (apply Blk.set_) | with_reducible (apply Blk.far; case hp => (simp <;> omega)) | with_reducible (apply Blk.alloc) | with_reducible (apply Blk.drew)))
  replace hk : Blk w1 w.heap.size 89 #[.int .u8 (x : Int), .int .i64 f, .int .i64 s] := hk
  replace hB := Below.via (w := w) (by have hs_ := hB.size; repeat (first | with_reducible exact hB | with_reducible (refine Below.setCell ?_ (by simp <;> omega) _) | with_reducible (refine Below.alloc ?_ (by first | exact hs_ | (simp <;> omega)) _) | with_reducible (refine Below.drew ?_))) bB
  clear z1 z2 z3 z4 z5 z6 z7
  clear bB
  have z8 : w1.cell? ⟨w.heap.size, 0, none⟩ = some (.int .u8 (x : Int)) := (hk.cell 0).trans rfl
  have z9 := hk.frozen 0
  have z10 : w1.cell? ⟨w.heap.size, 1, none⟩ = some (.int .i64 f) := (hk.cell 1).trans rfl
  have z11 := hk.frozen 1
  have z12 : w1.cell? ⟨w.heap.size, 2, none⟩ = some (.int .i64 s) := (hk.cell 2).trans rfl
  have z13 := hk.frozen 2
  have z14 := hk.lt
  go_wp2_with fail
  have z15 := hk.lt
  clear z8 z9 z10 z11 z12 z13 z14 z15
  go_cut [4] (fun s4 wx => ∃ (A : Option Addr) (c : Nat), s4 = .slice A (1 + D.length) c ∧ wx.ownsRow w1.heap.size 5 1 (.slice A (1 + D.length) c) (1 + D.length) (([UInt8.ofNat x] ++ D).map b8) ∧ Below w1.heap.size w1 wx)
  case first =>
    refine bx_start (w1.heap.size) (w1.heap.size) (by kernel_rfl) (fun hQ => ?_)
    have hx0 := (Below.refl w1.heap.size w1).drew
    have hlt_ := hk.lt
    have hk0 := hk.below hx0 hlt_
    generalize w1.drew = x0 at *
    have X0 : ∀ W, BelowX w1.heap.size w1.heap.size x0 W → W.cell? ⟨w.heap.size, 0, none⟩ = some (.int .u8 (x : Int)) := fun W h => ((hk0.below (BelowXe h) hlt_).cell 0).trans rfl
    have X1 : ∀ W, BelowX w1.heap.size w1.heap.size x0 W → W.cell? ⟨w.heap.size, 1, none⟩ = some (.int .i64 f) := fun W h => ((hk0.below (BelowXe h) hlt_).cell 1).trans rfl
    have X2 : ∀ W, BelowX w1.heap.size w1.heap.size x0 W → W.cell? ⟨w.heap.size, 2, none⟩ = some (.int .i64 s) := fun W h => ((hk0.below (BelowXe h) hlt_).cell 2).trans rfl
    refine bx_take (i := 0) (oi := ?oia0x1) (v := ?va0x1) ?hia0x1 (by kernel_rfl) (by kernel_rfl) (by kernel_rfl) hQ ?hwa0x1 ?hya0x1 ?resta0x1
    case hia0x1 => simp only [List.getElem?_toArray, List.getElem?_cons_zero]; rfl
    case hwa0x1 => rfl
    case hya0x1 => intro W hW; go_simp; with_reducible rfl
    simp only [Act.put, List.setIfInBounds_toArray, List.set_cons_zero, List.set_cons_succ]
    refine bx_take (i := 1) (oi := ?oia1x2) (v := ?va1x2) ?hia1x2 (by kernel_rfl) (by kernel_rfl) (by kernel_rfl) hQ ?hwa1x2 ?hya1x2 ?resta1x2
    case hia1x2 => simp only [List.getElem?_toArray, List.getElem?_cons_zero, List.getElem?_cons_succ]; rfl
    case hwa1x2 => rfl
    case hya1x2 => intro W hW; go_simp; with_reducible rfl
    simp only [Act.put, List.setIfInBounds_toArray, List.set_cons_zero, List.set_cons_succ]
    refine bx_take (i := 3) (oi := ?oia3x3) (v := ?va3x3) ?hia3x3 (by kernel_rfl) (by kernel_rfl) (by kernel_rfl) hQ ?hwa3x3 ?hya3x3 ?resta3x3
    case hia3x3 => simp only [List.getElem?_toArray, List.getElem?_cons_zero, List.getElem?_cons_succ]; rfl
    case hwa3x3 => rfl
    case hya3x3 => intro W hW; go_simp; with_reducible rfl
    simp only [Act.put, List.setIfInBounds_toArray, List.set_cons_zero, List.set_cons_succ]
    refine bx_take (i := 4) (oi := ?oia4x4) (v := ?va4x4) ?hia4x4 (by kernel_rfl) (by kernel_rfl) (by kernel_rfl) hQ ?hwa4x4 ?hya4x4 ?resta4x4
    case hia4x4 => simp only [List.getElem?_toArray, List.getElem?_cons_zero, List.getElem?_cons_succ]; rfl
    case hwa4x4 => rfl
    case hya4x4 => intro W hW; go_simp; with_reducible rfl
    simp only [Act.put, List.setIfInBounds_toArray, List.set_cons_zero, List.set_cons_succ]
    refine bx_two (i := 2) (j := 5) (oi := ?oia2x5) (oj := ?oja2x5) (by kernel_rfl) ?hia2x5 ?hja2x5 ?hwa2x5 ?hva2x5 (fun K hK => ?_) (fun K hK => ?_)
    case hia2x5 => simp only [List.getElem?_toArray, List.getElem?_cons_zero, List.getElem?_cons_succ]; rfl
    case hja2x5 => simp only [List.getElem?_toArray, List.getElem?_cons_zero, List.getElem?_cons_succ]; rfl
    case hwa2x5 => rfl
    case hva2x5 => rfl
    · go_simp
      have hz := hx0.size; have b1 := Ext.al x0 (.cells #[.int .u8 (x : Int)] 5); have o1 := own_byte (w := x0) hz hx; (try replace o2 := own_call o2 b1); replace hx0 := hx0.trans (Below.mono b1 hz); refine hK _ _ (BelowX.of (Below.mono b1 hz) _) ?_; clear b1 hz; generalize x0.heap.size = g1 at *; generalize x0.alloc (.cells #[.int .u8 (x : Int)] 5) = x0 at *
      try simp only [Act.put, List.setIfInBounds_toArray, List.set_cons_zero, List.set_cons_succ]
      refine bx_step (i := 5) (oi := ?oia5x6) (by kernel_rfl) ?hia5x6 ?hwa5x6 (fun K hK => ?_)
      case hia5x6 => simp only [List.getElem?_toArray, List.getElem?_cons_zero, List.getElem?_cons_succ]; rfl
      case hwa5x6 => rfl
      go_simp
      have hz := hx0.size; refine (HSG.out x0).mono ?_; rintro e x0 ⟨A2, c2, rfl, o2, b1⟩; (try replace o1 := own_call o1 b1); replace o2 := own_low o2 hz; replace hx0 := hx0.trans (b1.mono hz); refine hK _ _ (BelowX.of (b1.mono hz) _) ?_; clear b1 hz
      try simp only [Act.put, List.setIfInBounds_toArray, List.set_cons_zero, List.set_cons_succ]
      refine bx_step (i := 6) (oi := ?oia6x7) (by kernel_rfl) ?hia6x7 ?hwa6x7 (fun K hK => ?_)
      case hia6x7 => simp only [List.getElem?_toArray, List.getElem?_cons_zero, List.getElem?_cons_succ]; rfl
      case hwa6x7 => rfl
      (refine wp_app8 (.tmp 10) (.tmp 13) _ (by rfl) sl8 w1.heap.size (by rfl) o1 (by rfl) (own_rd o2) (1 + D.length) rfl (by omega) hx0.size ?_; intro A3 c3 w3 o3 b3; replace hx0 := hx0.trans b3; refine hK _ _ (BelowX.of b3 _) ?_)
      try simp only [Act.put, List.setIfInBounds_toArray, List.set_cons_zero, List.set_cons_succ]
      refine bx_take (i := 7) (oi := ?oia7x8) (v := ?va7x8) ?hia7x8 (by kernel_rfl) (by kernel_rfl) (by kernel_rfl) hQ ?hwa7x8 ?hya7x8 ?resta7x8
      case hia7x8 => simp only [List.getElem?_toArray, List.getElem?_cons_zero, List.getElem?_cons_succ]; rfl
      case hwa7x8 => rfl
      case hya7x8 => intro W hW; go_simp; with_reducible rfl
      simp only [Act.put, List.setIfInBounds_toArray, List.set_cons_zero, List.set_cons_succ]
      refine wpAnyH_done (by kernel_rfl) ?_ _
      simp only [NoP]
      go_wp2_with fail
      go_meet
      case rel => exact ⟨A3, c3, rfl, o3, hx0⟩
    · go_simp
      have hz := hx0.size; refine (HSG.out x0).mono ?_; rintro e x0 ⟨A2, c2, rfl, o2, b1⟩; (try replace o1 := own_call o1 b1); replace o2 := own_low o2 hz; replace hx0 := hx0.trans (b1.mono hz); refine hK _ _ (BelowX.of (b1.mono hz) _) ?_; clear b1 hz
      try simp only [Act.put, List.setIfInBounds_toArray, List.set_cons_zero, List.set_cons_succ]
      refine bx_step (i := 2) (oi := ?oia2x9) (by kernel_rfl) ?hia2x9 ?hwa2x9 (fun K hK => ?_)
      case hia2x9 => simp only [List.getElem?_toArray, List.getElem?_cons_zero, List.getElem?_cons_succ]; rfl
      case hwa2x9 => rfl
      go_simp
      have hz := hx0.size; have b1 := Ext.al x0 (.cells #[.int .u8 (x : Int)] 5); have o1 := own_byte (w := x0) hz hx; (try replace o2 := own_call o2 b1); replace hx0 := hx0.trans (Below.mono b1 hz); refine hK _ _ (BelowX.of (Below.mono b1 hz) _) ?_; clear b1 hz; generalize x0.heap.size = g1 at *; generalize x0.alloc (.cells #[.int .u8 (x : Int)] 5) = x0 at *
      try simp only [Act.put, List.setIfInBounds_toArray, List.set_cons_zero, List.set_cons_succ]
      refine bx_step (i := 6) (oi := ?oia6x10) (by kernel_rfl) ?hia6x10 ?hwa6x10 (fun K hK => ?_)
      case hia6x10 => simp only [List.getElem?_toArray, List.getElem?_cons_zero, List.getElem?_cons_succ]; rfl
      case hwa6x10 => rfl
      (refine wp_app8 (.tmp 10) (.tmp 13) _ (by rfl) sl8 w1.heap.size (by rfl) o1 (by rfl) (own_rd o2) (1 + D.length) rfl (by omega) hx0.size ?_; intro A3 c3 w3 o3 b3; replace hx0 := hx0.trans b3; refine hK _ _ (BelowX.of b3 _) ?_)
      try simp only [Act.put, List.setIfInBounds_toArray, List.set_cons_zero, List.set_cons_succ]
      refine bx_take (i := 7) (oi := ?oia7x11) (v := ?va7x11) ?hia7x11 (by kernel_rfl) (by kernel_rfl) (by kernel_rfl) hQ ?hwa7x11 ?hya7x11 ?resta7x11
      case hia7x11 => simp only [List.getElem?_toArray, List.getElem?_cons_zero, List.getElem?_cons_succ]; rfl
      case hwa7x11 => rfl
      case hya7x11 => intro W hW; go_simp; with_reducible rfl
      simp only [Act.put, List.setIfInBounds_toArray, List.set_cons_zero, List.set_cons_succ]
      refine wpAnyH_done (by kernel_rfl) ?_ _
      simp only [NoP]
      go_wp2_with fail
      go_meet
      case rel => exact ⟨A3, c3, rfl, o3, hx0⟩
  case' rest =>
    obtain ⟨A3, c3, rfl, o3, bc⟩ := hcut
    replace o3 := own_low o3 hB.size
    replace hk := hk.below bc hk.lt
    replace hB := hB.trans (bc.mono hB.size)
    clear bc
  have ne_o3_hk := own_blk_ne o3 hk (by decide)
  have z16 : wc.cell? ⟨w.heap.size, 0, none⟩ = some (.int .u8 (x : Int)) := (hk.cell 0).trans rfl
  have z17 := hk.frozen 0
  have z18 : wc.cell? ⟨w.heap.size, 1, none⟩ = some (.int .i64 f) := (hk.cell 1).trans rfl
  have z19 := hk.frozen 1
  have z20 : wc.cell? ⟨w.heap.size, 2, none⟩ = some (.int .i64 s) := (hk.cell 2).trans rfl
  have z21 := hk.frozen 2
  have z22 := hk.lt
  go_wp2_with fail
  have hq := Blk.new wc 55 #[.int .u64 (u : Int)]
  have HP := hput_any w.heap.size A3 (1 + D.length) c3 ([UInt8.ofNat x] ++ D) wc.heap.size 1 1 [u] _ (own_alloc_ o3 _) (by have h1 := hB.size; rw [alloc_size]; omega) (by simpa using hq) rfl (by intro n hn; simp at hn; omega) (by omega) (by omega)
  rw [show ([UInt8.ofNat x] ++ D) ++ vrs [u] = E from HE.out] at HP
  refine HP.mono ?_
  rintro e w9 ⟨A9, c9, rfl, o9, b9, _⟩
  go_wp2_with fail
  go_ret2
  exact ⟨A9, c9, by rw [HV.out.1, HV.out.2]; rfl, by rw [HV.out.1]; exact o9, (hB.alloc hB.size _).trans b9⟩

end Go.Proofs.Ytldaijkcmnnjpaa
