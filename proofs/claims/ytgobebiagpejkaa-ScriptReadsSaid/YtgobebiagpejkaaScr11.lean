/- The contract of the reference's Decode of a script. It states its conditions. -/
import Derived.Test.YtgobebiagpejkaaScr10
namespace Go.Proofs.Ytgobebiagpejkaa
open Go.RowKit Wire
set_option linter.unusedVariables false

theorem BelowXd {B : Nat} {w W : World} (h : BelowX B B w.drew W) : Below B w W := ⟨h.os, h.tape, h.output, h.size, fun k hk => h.block k hk (by omega)⟩

theorem alE {B : Nat} {w0 X : World} (h : Below B w0 X) (o : Obj) : Ext X (X.alloc o) := Ext.al X o
theorem newB {B : Nat} {w0 X : World} (h : Below B w0 X) (t : TypeId) (cs : Array Value) : Blk (X.alloc (.cells cs t)) X.heap.size t cs := Blk.new X t cs
theorem BelowX.setHi {B g p : Nat} {u w : World} (h : BelowX B g u w) (hp : B ≤ p) (i : Nat) (v : Value) : BelowX B g u (w.setCell ⟨p, i, none⟩ v) :=
  ⟨h.os, h.tape, h.output, by simpa [World.setCell] using h.size, fun k hk hn => (Below.heap_setCell w ⟨p, i, none⟩ v k (by show k ≠ p; omega)).trans (h.block k hk hn)⟩
theorem Blk.farHi {w : World} {k p B : Nat} {t : TypeId} {cs : Array Value} (h : Blk w k t cs) (hp : B ≤ p) (hk : k < B) (i : Nat) (v : Value) : Blk (w.setCell ⟨p, i, none⟩ v) k t cs := h.far (p := ⟨p, i, none⟩) (by show k ≠ p; omega) v
theorem setHiB {w0 w : World} {C p B : Nat} (h : Below C w0 w) (hp : B ≤ p) (hk : C < B) (i : Nat) (v : Value) : Below C w0 (w.setCell ⟨p, i, none⟩ v) := h.setCell (p := ⟨p, i, none⟩) (by show C ≤ p; omega) v
theorem own_ne {w : World} {base g n size : Nat} {e t : TypeId} {v : Value} {xs : List Value} {cs : Array Value} (h : w.ownsRow base e size v n xs) (hg : Blk w g t cs) (hne : e ≠ t) (i : Nat) (u : Value) : (w.setCell ⟨g, i, none⟩ u).ownsRow base e size v n xs :=
  ownsRow_setCell_other h (a := ⟨g, i, none⟩) (own_blk_ne h hg hne) u
theorem bx_two {P : Program} {ops : Array Oper} {Q : Exit → Act → World → Prop} {md : Region.Mode} {B g i j : Nat} {oi oj : Oper} {fuel : Nat} {listed : Array Bool} {a : Act} {w : World} (hr : Region.ready md ops listed = [i, j]) (hi : ops[i]? = some oi) (hj : ops[j]? = some oj)
    (hwi : Region.wanted oi (yielded ops a.tmps) = true) (hwj : Region.wanted oj (yielded ops a.tmps) = true)
    (h1 : ∀ K' : Act → World → Prop, (∀ a' w', BelowX B g w w' → wpAnyH P md ops Q (BelowX B g w') fuel (listed.setIfInBounds i true) a' w' → K' a' w') → Oper.wp P oi a w K' Q)
    (h2 : ∀ K' : Act → World → Prop, (∀ a' w', BelowX B g w w' → wpAnyH P md ops Q (BelowX B g w') fuel (listed.setIfInBounds j true) a' w' → K' a' w') → Oper.wp P oj a w K' Q) :
    wpAnyH P md ops Q (BelowX B g w) (fuel + 1) listed a w :=
  wpAnyH_ready hr (by simp) (AllReadyH.cons hi (fun K' hK => by
    rw [if_pos hwi]
    exact h1 K' fun a' w' hx hW => hK.out a' w' hx fun _ => bx_narrow hx hW) (AllReadyH.cons hj (fun K' hK => by
    rw [if_pos hwj]
    exact h2 K' fun a' w' hx hW => hK.out a' w' hx fun _ => bx_narrow hx hW) AllReadyH.nil))
theorem bx_alloc2 {B g : Nat} {w : World} (hB : B ≤ w.heap.size) (o o' : Obj) : BelowX B g (w.alloc o) (w.alloc o') :=
  ⟨rfl, rfl, rfl, by simp, fun k hk _ => (Below.heap_alloc w o' k (by omega)).trans (Below.heap_alloc w o k (by omega)).symm⟩

set_option maxRecDepth 100000 in
set_option maxHeartbeats 8000000 in
theorem redecode_any (A : Option Addr) (n c : Nat) (l : List UInt8) (w : World) (hr : Rb w A n l) (hnc : n ≤ c) :
    Calls Try.prog 23 #[.slice A n c] w fun e w' => DcPost w l e w' := by
  by_cases hbig : 6100 < n
  · have d0 : decide ((6100 : Int) < (n : Int)) = true := by simp; omega
    have HE := Lib.hid (show dcE l = 4 from by unfold dcE; rw [if_pos (by rw [hr.len8]; exact hbig)])
    have hB := (Below.refl w.heap.size w).alloc (Nat.le_refl _) (.cells #[.slice none 0 0, .int .i64 0, .int .i64 0, .int .i64 0, .int .i64 0] 31)
    have hz := Blk.new w 31 #[.slice none 0 0, .int .i64 0, .int .i64 0, .int .i64 0, .int .i64 0]
    go_enter Try.func23, Try.ntmps23
    go_wp2_with fail
    refine ret_c1 rfl scrT rfl (by repeat (first | with_reducible exact hz | with_reducible (apply Blk.set_) | with_reducible (apply Blk.far; case hp => (simp <;> omega)) | with_reducible (apply Blk.alloc) | with_reducible (apply Blk.drew))) (by rfl) ?_
    unfold DcPost
    exact ⟨none, 0, by rw [HE.out]; rfl, by rw [HE.out]; exact World.ownsRow_nil _ _ _ _, (by have hs_ := hB.size; repeat (first | with_reducible exact hB | with_reducible (refine Below.setCell ?_ (by simp <;> omega) _) | with_reducible (refine Below.alloc ?_ (by simp <;> omega) _) | with_reducible (refine Below.drew ?_)))⟩

  have d0 : decide ((6100 : Int) < (n : Int)) = false := by simp; omega
  have HL := Lib.hid hr.len8
  have HD := Lib.hid (show dcE l = if dcB l then 0 else 12 from by unfold dcE; rw [if_neg (by rw [HL.out]; exact hbig)])
  have hB := (Below.refl w.heap.size w).alloc (Nat.le_refl _) (.cells #[.slice none 0 0, .int .i64 0, .int .i64 0, .int .i64 0, .int .i64 0] 31)
  have hz := Blk.new w 31 #[.slice none 0 0, .int .i64 0, .int .i64 0, .int .i64 0, .int .i64 0]
  have R0 := hr.mv hB
  clear hr
  go_enter Try.func23, Try.ntmps23
  go_wp2_with fail
  refine (numbers_any A n c l _ R0 (by omega)).mono ?_
  rintro e w1 ⟨hpost, b⟩
  have hz1 := hz.below b hz.lt
  have hB1 := hB.trans (b.mono hB.size)
  have z0 : w1.cell? ⟨w.heap.size, 0, none⟩ = some (.slice none 0 0) := (hz1.cell 0).trans rfl
  have z1 : w1.cell? ⟨w.heap.size, 1, none⟩ = some (.int .i64 0) := (hz1.cell 1).trans rfl
  have z2 : w1.cell? ⟨w.heap.size, 2, none⟩ = some (.int .i64 0) := (hz1.cell 2).trans rfl
  have z3 : w1.cell? ⟨w.heap.size, 3, none⟩ = some (.int .i64 0) := (hz1.cell 3).trans rfl
  have z4 : w1.cell? ⟨w.heap.size, 4, none⟩ = some (.int .i64 0) := (hz1.cell 4).trans rfl
  have zf0 := hz1.frozen 0
  have zf1 := hz1.frozen 1
  have zf2 := hz1.frozen 2
  have zf3 := hz1.frozen 3
  have zf4 := hz1.frozen 4
  clear b hz R0
  rcases hpost with ⟨L, A1, c1, hN, rfl, RL, hc1⟩ | ⟨hno, rfl⟩
  rotate_left
  · have HE := Lib.hid (show dcE l = 12 from by rw [HD.out, dc_none hno]; rfl)
    clear hno
    go_wp2_with fail
    refine ret_c1 rfl scrT rfl (by repeat (first | with_reducible exact hz1 | with_reducible (apply Blk.set_) | with_reducible (apply Blk.far; case hp => (simp <;> omega)) | with_reducible (apply Blk.alloc) | with_reducible (apply Blk.drew))) (by rfl) ?_
    unfold DcPost
    exact ⟨none, 0, by rw [HE.out]; rfl, by rw [HE.out]; exact World.ownsRow_nil _ _ _ _, (by have hs_ := hB1.size; repeat (first | with_reducible exact hB1 | with_reducible (refine Below.setCell ?_ (by simp <;> omega) _) | with_reducible (refine Below.alloc ?_ (by simp <;> omega) _) | with_reducible (refine Below.drew ?_)))⟩

  have HN := Lib.hid hN
  obtain ⟨m, hm⟩ : ∃ m, L.length = m := ⟨_, rfl⟩
  rw [hm] at RL hc1 ⊢
  have hm2 : m ≤ 6100 := by
    have h1 := codN_ge L
    rw [hN.1, HL.out] at h1
    omega
  by_cases h5 : m < 5
  · have d1 : decide ((m : Int) < 5) = true := by simp; omega
    have HE := Lib.hid (show dcE l = 12 from by rw [HD.out, dc_short hN (by omega)]; rfl)
    clear hN hm
    go_wp2_with fail
    refine ret_c1 rfl scrT rfl (by repeat (first | with_reducible exact hz1 | with_reducible (apply Blk.set_) | with_reducible (apply Blk.far; case hp => (simp <;> omega)) | with_reducible (apply Blk.alloc) | with_reducible (apply Blk.drew))) (by rfl) ?_
    unfold DcPost
    exact ⟨none, 0, by rw [HE.out]; rfl, by rw [HE.out]; exact World.ownsRow_nil _ _ _ _, (by have hs_ := hB1.size; repeat (first | with_reducible exact hB1 | with_reducible (refine Below.setCell ?_ (by simp <;> omega) _) | with_reducible (refine Below.alloc ?_ (by simp <;> omega) _) | with_reducible (refine Below.drew ?_)))⟩

  have d1 : decide ((m : Int) < 5) = false := by simp; omega
  obtain ⟨x0, x1, x2, x3, x4, t, rfl⟩ := five_of (L := L) (by omega)
  have hx4 : x4 ≤ 1000000 := hN.2 x4 (by simp)
  have hx3 : x3 ≤ 1000000 := hN.2 x3 (by simp)
  have hx2 : x2 ≤ 1000000 := hN.2 x2 (by simp)
  have hx1 : x1 ≤ 1000000 := hN.2 x1 (by simp)
  have hx0 : x0 ≤ 1000000 := hN.2 x0 (by simp)
  clear hN
  obtain ⟨ad, rfl, hab, hcell⟩ := RL.2 (by omega)
  have i0 : w1.cell? ad = some (.int .i64 (x0 : Int)) := hcell 0 (.int .i64 (x0 : Int)) (by simp [toI, vI])
  have i1 : w1.cell? ⟨ad.block, ad.off + 1, none⟩ = some (.int .i64 (x1 : Int)) := hcell 1 (.int .i64 (x1 : Int)) (by simp [toI, vI])
  have i2 : w1.cell? ⟨ad.block, ad.off + 2, none⟩ = some (.int .i64 (x2 : Int)) := hcell 2 (.int .i64 (x2 : Int)) (by simp [toI, vI])
  have i3 : w1.cell? ⟨ad.block, ad.off + 3, none⟩ = some (.int .i64 (x3 : Int)) := hcell 3 (.int .i64 (x3 : Int)) (by simp [toI, vI])
  have i4 : w1.cell? ⟨ad.block, ad.off + 4, none⟩ = some (.int .i64 (x4 : Int)) := hcell 4 (.int .i64 (x4 : Int)) (by simp [toI, vI])
  clear hcell
  have l4 : (4 : Int) < (m : Int) := by omega
  simp only [List.length_cons] at hm
  by_cases hx : x4 = t.length
  rotate_left
  · have d2 : ((m : Int) != 5 + (x4 : Int)) = true := by rw [bne_iff_ne]; omega
    have HE := Lib.hid (show dcE l = 12 from by rw [HD.out, dc_count HN.out hx]; rfl)
    clear hx hm
    go_wp2_with fail
    refine ret_c1 rfl scrT rfl (by repeat (first | with_reducible exact hz1 | with_reducible (apply Blk.set_) | with_reducible (apply Blk.far; case hp => (simp <;> omega)) | with_reducible (apply Blk.alloc) | with_reducible (apply Blk.drew))) (by rfl) ?_
    unfold DcPost
    exact ⟨none, 0, by rw [HE.out]; rfl, by rw [HE.out]; exact World.ownsRow_nil _ _ _ _, (by have hs_ := hB1.size; repeat (first | with_reducible exact hB1 | with_reducible (refine Below.setCell ?_ (by simp <;> omega) _) | with_reducible (refine Below.alloc ?_ (by simp <;> omega) _) | with_reducible (refine Below.drew ?_)))⟩

  have d2 : ((m : Int) != 5 + (x4 : Int)) = false := by
    rw [show (m : Int) = 5 + (x4 : Int) by omega]; simp
  rw [hx] at HN
  have HF := Lib.hid (dc_five (by rw [HL.out]; omega) HN.out)
  obtain ⟨q, hq⟩ : ∃ q, t.length = q := ⟨_, rfl⟩
  have hmq : m = 5 + q := by omega
  have HTL := Lib.hid (show (toI t).length = q from by rw [toI, List.length_map]; exact hq)
  have hm5 : 5 ≤ m := by omega
  have HMQ := Lib.hid hmq
  clear hx hm hq HN hmq
  go_wp2_with fail
  refine bx_start (w1.heap.size) (w1.heap.size) (by kernel_rfl) (fun hQ => ?_)
  have hz := hz1.drew
  have hB := hB1.drew
  have RL2 := Reads.drew RL
  have R5 := Reads.cut RL2 hm5 hc1
  simp only [Nat.mul_one] at R5
  rw [show m - 5 = q from by have := HMQ.out; omega, show (if c1 = 5 then some ad else Option.map (fun x => x.add 5) (some ad)) = sA (some ad) c1 5 from rfl, show ((toI (x0 :: x1 :: x2 :: x3 :: x4 :: t)).map vI).drop 5 = (toI t).map vI from by simp [toI]] at R5
  have hsz : w1.heap.size ≤ w1.drew.heap.size := Nat.le_refl _
  have HS := slice_l (P := Try.prog) Try.underlying27 (fun _ => by kernel_rfl) (some ad) m c1 5 (k1 := .i64) (a := 5) rfl hm5
  rw [show m - 5 = q from by have := HMQ.out; omega] at HS
  have g0 : ∀ W, BelowX w1.heap.size w1.heap.size w1.drew W → W.cell? ad = some (.int .i64 (x0 : Int)) := fun W h => by
    exact ((BelowXd h).cell hab).trans i0
  have g1 : ∀ W, BelowX w1.heap.size w1.heap.size w1.drew W → W.cell? ⟨ad.block, ad.off + 1, none⟩ = some (.int .i64 (x1 : Int)) := fun W h => ((BelowXd h).cell (p := ⟨ad.block, ad.off + 1, none⟩) hab).trans i1
  have g2 : ∀ W, BelowX w1.heap.size w1.heap.size w1.drew W → W.cell? ⟨ad.block, ad.off + 2, none⟩ = some (.int .i64 (x2 : Int)) := fun W h => ((BelowXd h).cell (p := ⟨ad.block, ad.off + 2, none⟩) hab).trans i2
  have g3 : ∀ W, BelowX w1.heap.size w1.heap.size w1.drew W → W.cell? ⟨ad.block, ad.off + 3, none⟩ = some (.int .i64 (x3 : Int)) := fun W h => ((BelowXd h).cell (p := ⟨ad.block, ad.off + 3, none⟩) hab).trans i3
  have l0 : (0 : Int) < (m : Int) := by omega
  have l1 : (1 : Int) < (m : Int) := by omega
  have l2 : (2 : Int) < (m : Int) := by omega
  have l3 : (3 : Int) < (m : Int) := by omega
  have l5 : (5 : Int) ≤ (m : Int) := by omega
  have m0 : 0 < m := by omega
  have m1 : 1 < m := by omega
  have m2 : 2 < m := by omega
  have m3 : 3 < m := by omega
  have hqb : q ≤ 6100 := by have := HMQ.out; omega
  have hzl : w.heap.size < w1.heap.size := hz1.lt
  clear i0 i1 i2 i3 i4 RL hz1 hB1 z0 z1 z2 z3 z4 zf0 zf1 zf2 zf3 zf4 l4 d1 d2
  generalize w1.drew = x at *
  refine bx_take (i := 0) (oi := ?oia0x1) (v := ?va0x1) ?hia0x1 (by kernel_rfl) (by kernel_rfl) (by kernel_rfl) hQ ?hwa0x1 ?hya0x1 ?resta0x1
  case hia0x1 => simp only [List.getElem?_toArray, List.getElem?_cons_zero]; rfl
  case hwa0x1 => rfl
  case hya0x1 => intro W hW; go_simp; with_reducible rfl
  simp only [Act.put, List.setIfInBounds_toArray, List.set_cons_zero, List.set_cons_succ]
  refine bx_take (i := 1) (oi := ?oia1x2) (v := ?va1x2) ?hia1x2 (by kernel_rfl) (by kernel_rfl) (by kernel_rfl) hQ ?hwa1x2 ?hya1x2 ?resta1x2
  case hia1x2 => simp only [List.getElem?_toArray, List.getElem?_cons_zero, List.getElem?_cons_succ]; rfl
  case hwa1x2 => rfl
  case hya1x2 => intro W hW; go_simp; with_reducible rfl
  simp only [Act.put, List.setIfInBounds_toArray, List.set_cons_zero, List.set_cons_succ]
  refine bx_take (i := 2) (oi := ?oia2x3) (v := ?va2x3) ?hia2x3 (by kernel_rfl) (by kernel_rfl) (by kernel_rfl) hQ ?hwa2x3 ?hya2x3 ?resta2x3
  case hia2x3 => simp only [List.getElem?_toArray, List.getElem?_cons_zero, List.getElem?_cons_succ]; rfl
  case hwa2x3 => rfl
  case hya2x3 => intro W hW; go_simp; with_reducible rfl
  simp only [Act.put, List.setIfInBounds_toArray, List.set_cons_zero, List.set_cons_succ]
  refine bx_take (i := 3) (oi := ?oia3x4) (v := ?va3x4) ?hia3x4 (by kernel_rfl) (by kernel_rfl) (by kernel_rfl) hQ ?hwa3x4 ?hya3x4 ?resta3x4
  case hia3x4 => simp only [List.getElem?_toArray, List.getElem?_cons_zero, List.getElem?_cons_succ]; rfl
  case hwa3x4 => rfl
  case hya3x4 => intro W hW; go_simp; with_reducible rfl
  simp only [Act.put, List.setIfInBounds_toArray, List.set_cons_zero, List.set_cons_succ]
  refine bx_take (i := 4) (oi := ?oia4x5) (v := ?va4x5) ?hia4x5 (by kernel_rfl) (by kernel_rfl) (by kernel_rfl) hQ ?hwa4x5 ?hya4x5 ?resta4x5
  case hia4x5 => simp only [List.getElem?_toArray, List.getElem?_cons_zero, List.getElem?_cons_succ]; rfl
  case hwa4x5 => rfl
  case hya4x5 => intro W hW; go_simp; with_reducible rfl
  simp only [Act.put, List.setIfInBounds_toArray, List.set_cons_zero, List.set_cons_succ]
  refine bx_take (i := 5) (oi := ?oia5x6) (v := ?va5x6) ?hia5x6 (by kernel_rfl) (by kernel_rfl) (by kernel_rfl) hQ ?hwa5x6 ?hya5x6 ?resta5x6
  case hia5x6 => simp only [List.getElem?_toArray, List.getElem?_cons_zero, List.getElem?_cons_succ]; rfl
  case hwa5x6 => rfl
  case hya5x6 => intro W hW; go_simp; with_reducible rfl
  simp only [Act.put, List.setIfInBounds_toArray, List.set_cons_zero, List.set_cons_succ]
  refine bx_take (i := 6) (oi := ?oia6x7) (v := ?va6x7) ?hia6x7 (by kernel_rfl) (by kernel_rfl) (by kernel_rfl) hQ ?hwa6x7 ?hya6x7 ?resta6x7
  case hia6x7 => simp only [List.getElem?_toArray, List.getElem?_cons_zero, List.getElem?_cons_succ]; rfl
  case hwa6x7 => rfl
  case hya6x7 => intro W hW; go_simp; with_reducible rfl
  simp only [Act.put, List.setIfInBounds_toArray, List.set_cons_zero, List.set_cons_succ]
  refine bx_take (i := 7) (oi := ?oia7x8) (v := ?va7x8) ?hia7x8 (by kernel_rfl) (by kernel_rfl) (by kernel_rfl) hQ ?hwa7x8 ?hya7x8 ?resta7x8
  case hia7x8 => simp only [List.getElem?_toArray, List.getElem?_cons_zero, List.getElem?_cons_succ]; rfl
  case hwa7x8 => rfl
  case hya7x8 => intro W hW; go_simp; with_reducible rfl
  simp only [Act.put, List.setIfInBounds_toArray, List.set_cons_zero, List.set_cons_succ]
  refine bx_take (i := 8) (oi := ?oia8x9) (v := ?va8x9) ?hia8x9 (by kernel_rfl) (by kernel_rfl) (by kernel_rfl) hQ ?hwa8x9 ?hya8x9 ?resta8x9
  case hia8x9 => simp only [List.getElem?_toArray, List.getElem?_cons_zero, List.getElem?_cons_succ]; rfl
  case hwa8x9 => rfl
  case hya8x9 => intro W hW; go_simp; with_reducible rfl
  simp only [Act.put, List.setIfInBounds_toArray, List.set_cons_zero, List.set_cons_succ]
  refine bx_take (i := 9) (oi := ?oia9x10) (v := ?va9x10) ?hia9x10 (by kernel_rfl) (by kernel_rfl) (by kernel_rfl) hQ ?hwa9x10 ?hya9x10 ?resta9x10
  case hia9x10 => simp only [List.getElem?_toArray, List.getElem?_cons_zero, List.getElem?_cons_succ]; rfl
  case hwa9x10 => rfl
  case hya9x10 => intro W hW; go_simp; with_reducible rfl
  simp only [Act.put, List.setIfInBounds_toArray, List.set_cons_zero, List.set_cons_succ]
  refine bx_take (i := 10) (oi := ?oia10x11) (v := ?va10x11) ?hia10x11 (by kernel_rfl) (by kernel_rfl) (by kernel_rfl) hQ ?hwa10x11 ?hya10x11 ?resta10x11
  case hia10x11 => simp only [List.getElem?_toArray, List.getElem?_cons_zero, List.getElem?_cons_succ]; rfl
  case hwa10x11 => rfl
  case hya10x11 => intro W hW; go_simp; with_reducible rfl
  simp only [Act.put, List.setIfInBounds_toArray, List.set_cons_zero, List.set_cons_succ]
  refine bx_take (i := 11) (oi := ?oia11x12) (v := ?va11x12) ?hia11x12 (by kernel_rfl) (by kernel_rfl) (by kernel_rfl) hQ ?hwa11x12 ?hya11x12 ?resta11x12
  case hia11x12 => simp only [List.getElem?_toArray, List.getElem?_cons_zero, List.getElem?_cons_succ]; rfl
  case hwa11x12 => rfl
  case hya11x12 => intro W hW; go_simp; with_reducible rfl
  simp only [Act.put, List.setIfInBounds_toArray, List.set_cons_zero, List.set_cons_succ]
  refine bx_take (i := 12) (oi := ?oia12x13) (v := ?va12x13) ?hia12x13 (by kernel_rfl) (by kernel_rfl) (by kernel_rfl) hQ ?hwa12x13 ?hya12x13 ?resta12x13
  case hia12x13 => simp only [List.getElem?_toArray, List.getElem?_cons_zero, List.getElem?_cons_succ]; rfl
  case hwa12x13 => rfl
  case hya12x13 => intro W hW; go_simp; with_reducible rfl
  simp only [Act.put, List.setIfInBounds_toArray, List.set_cons_zero, List.set_cons_succ]
  refine bx_take (i := 14) (oi := ?oia14x14) (v := ?va14x14) ?hia14x14 (by kernel_rfl) (by kernel_rfl) (by kernel_rfl) hQ ?hwa14x14 ?hya14x14 ?resta14x14
  case hia14x14 => simp only [List.getElem?_toArray, List.getElem?_cons_zero, List.getElem?_cons_succ]; rfl
  case hwa14x14 => rfl
  case hya14x14 => intro W hW; go_simp; with_reducible rfl
  simp only [Act.put, List.setIfInBounds_toArray, List.set_cons_zero, List.set_cons_succ]
  refine bx_take (i := 15) (oi := ?oia15x15) (v := ?va15x15) ?hia15x15 (by kernel_rfl) (by kernel_rfl) (by kernel_rfl) hQ ?hwa15x15 ?hya15x15 ?resta15x15
  case hia15x15 => simp only [List.getElem?_toArray, List.getElem?_cons_zero, List.getElem?_cons_succ]; rfl
  case hwa15x15 => rfl
  case hya15x15 => intro W hW; go_simp; with_reducible rfl
  simp only [Act.put, List.setIfInBounds_toArray, List.set_cons_zero, List.set_cons_succ]
  refine bx_two (i := 13) (j := 18) (oi := ?oia13x16) (oj := ?oja13x16) (by kernel_rfl) ?hia13x16 ?hja13x16 ?hwa13x16 ?hva13x16 (fun K hK => ?_) (fun K hK => ?_)
  case hia13x16 => simp only [List.getElem?_toArray, List.getElem?_cons_zero, List.getElem?_cons_succ]; rfl
  case hja13x16 => simp only [List.getElem?_toArray, List.getElem?_cons_zero, List.getElem?_cons_succ]; rfl
  case hwa13x16 => rfl
  case hva13x16 => rfl
  · go_simp
    have b := alE hB (.cells #[] 3); have o5 := own_empty _ hsz 3 1; (try rw [alloc_size] at o5); have hx := BelowX.of (Below.mono b hsz) w1.heap.size; have R5 := R5.below (Below.mono b hsz); have hz := hz.below b hz.lt; have hB := hB.trans (Below.mono b hB.size); have hsz := Nat.le_trans hsz (Below.size b); (try (have h6 := h6.below b h6.lt)); refine hK _ _ hx ?_
    try simp only [Act.put, List.setIfInBounds_toArray, List.set_cons_zero, List.set_cons_succ]
    refine bx_two (i := 16) (j := 18) (oi := ?oia16x17) (oj := ?oja16x17) (by kernel_rfl) ?hia16x17 ?hja16x17 ?hwa16x17 ?hva16x17 (fun K hK => ?_) (fun K hK => ?_)
    case hia16x17 => simp only [List.getElem?_toArray, List.getElem?_cons_zero, List.getElem?_cons_succ]; rfl
    case hja16x17 => simp only [List.getElem?_toArray, List.getElem?_cons_zero, List.getElem?_cons_succ]; rfl
    case hwa16x17 => rfl
    case hva16x17 => rfl
    · (refine wp_app (.tmp 46) (.tmp 48) _ (by rfl) slI w1.heap.size _ 0 [] (by rfl) o5 _ (sA (some ad) c1 5) q _ ((toI t).map vI) (by rfl) R5 (vI_one _) (by omega) hsz ?_; intro A6 c6 w6 o6 hg6 b6 hc6; rw [Nat.zero_add, List.nil_append] at o6; rw [Nat.zero_add]; (try (have h6 := h6.grown hg6 (fun h => own_blk_ne o5 h6 (by decide : (3 : Nat) ≠ 31) h.symm))); have hz := hz.below b6 hzl; have hB := hB.trans (b6.mono (Nat.le_of_lt hzl)); have hsz := Nat.le_trans hsz b6.size; have R5 := R5.below b6; refine hK _ _ (BelowX.of b6 _) ?_)
      try simp only [Act.put, List.setIfInBounds_toArray, List.set_cons_zero, List.set_cons_succ]
      refine bx_take (i := 17) (oi := ?oia17x18) (v := ?va17x18) ?hia17x18 (by kernel_rfl) (by kernel_rfl) (by kernel_rfl) hQ ?hwa17x18 ?hya17x18 ?resta17x18
      case hia17x18 => simp only [List.getElem?_toArray, List.getElem?_cons_zero, List.getElem?_cons_succ]; rfl
      case hwa17x18 => rfl
      case hya17x18 => intro W hW; go_simp; with_reducible rfl
      simp only [Act.put, List.setIfInBounds_toArray, List.set_cons_zero, List.set_cons_succ]
      refine bx_step (i := 18) (oi := ?oia18x19) (by kernel_rfl) ?hia18x19 ?hwa18x19 (fun K hK => ?_)
      case hia18x19 => simp only [List.getElem?_toArray, List.getElem?_cons_zero, List.getElem?_cons_succ]; rfl
      case hwa18x19 => rfl
      go_simp
      have hBp := hB; have hzp := hz; have hszp := hsz; (try (have o6p := o6)); have b := alE hB (.cells #[.slice none 0 0, .int .i64 0, .int .i64 0, .int .i64 0, .int .i64 0] 31); have h6 := newB hB 31 #[.slice none 0 0, .int .i64 0, .int .i64 0, .int .i64 0, .int .i64 0]; (try rw [alloc_size] at h6); (try rw [alloc_size] at hszp); have hx := BelowX.of (Below.mono b hsz) w1.heap.size; have R5 := R5.below (Below.mono b hsz); have hz := hz.below b hz.lt; have hB := hB.trans (Below.mono b hB.size); have hsz := Nat.le_trans hsz (Below.size b); (try (have o5 := own_call o5 b)); (try (have o6 := own_call o6 b)); refine hK _ _ hx ?_
      try simp only [Act.put, List.setIfInBounds_toArray, List.set_cons_zero, List.set_cons_succ]
      refine bx_step (i := 19) (oi := ?oia19x20) (by kernel_rfl) ?hia19x20 ?hwa19x20 (fun K hK => ?_)
      case hia19x20 => simp only [List.getElem?_toArray, List.getElem?_cons_zero, List.getElem?_cons_succ]; rfl
      case hwa19x20 => rfl
      (have s0 := (h6.cell 0).trans (show _ = some (.slice none 0 0) from rfl); have f0 := h6.frozen 0; have s1 := (h6.cell 1).trans (show _ = some (.int .i64 0) from rfl); have f1 := h6.frozen 1; have s2 := (h6.cell 2).trans (show _ = some (.int .i64 0) from rfl); have f2 := h6.frozen 2; have s3 := (h6.cell 3).trans (show _ = some (.int .i64 0) from rfl); have f3 := h6.frozen 3; have s4 := (h6.cell 4).trans (show _ = some (.int .i64 0) from rfl); have f4 := h6.frozen 4; go_simp; clear s0 f0; clear s1 f1; clear s2 f2; clear s3 f3; clear s4 f4; first | (refine hK _ _ (bx_alloc2 hszp _ _) ?_; have b := alE hBp (.cells #[.slice A6 q c6, .int .i64 (x0 : Int), .int .i64 (x1 : Int), .int .i64 (x2 : Int), .int .i64 (x3 : Int)] 31); have h6 := newB hBp 31 #[.slice A6 q c6, .int .i64 (x0 : Int), .int .i64 (x1 : Int), .int .i64 (x2 : Int), .int .i64 (x3 : Int)]; have hz := hzp.below b hzp.lt; have hB := hBp.trans (Below.mono b hBp.size); have o6 := own_call o6p b) | (refine hK _ _ ((((((BelowX.refl w1.heap.size w1.heap.size _).setHi hszp 0 (.slice A6 q c6)).setHi hszp 1 (.int .i64 (x0 : Int))).setHi hszp 2 (.int .i64 (x1 : Int))).setHi hszp 3 (.int .i64 (x2 : Int))).setHi hszp 4 (.int .i64 (x3 : Int))) ?_; have o6 := own_ne o6 h6 (by decide : (3 : Nat) ≠ 31) 0 (.slice A6 q c6); have hz := Blk.farHi hz hszp hzl 0 (.slice A6 q c6); have hB := setHiB hB hszp hzl 0 (.slice A6 q c6); have h6 := h6.set_ 0 (.slice A6 q c6); have o6 := own_ne o6 h6 (by decide : (3 : Nat) ≠ 31) 1 (.int .i64 (x0 : Int)); have hz := Blk.farHi hz hszp hzl 1 (.int .i64 (x0 : Int)); have hB := setHiB hB hszp hzl 1 (.int .i64 (x0 : Int)); have h6 := h6.set_ 1 (.int .i64 (x0 : Int)); have o6 := own_ne o6 h6 (by decide : (3 : Nat) ≠ 31) 2 (.int .i64 (x1 : Int)); have hz := Blk.farHi hz hszp hzl 2 (.int .i64 (x1 : Int)); have hB := setHiB hB hszp hzl 2 (.int .i64 (x1 : Int)); have h6 := h6.set_ 2 (.int .i64 (x1 : Int)); have o6 := own_ne o6 h6 (by decide : (3 : Nat) ≠ 31) 3 (.int .i64 (x2 : Int)); have hz := Blk.farHi hz hszp hzl 3 (.int .i64 (x2 : Int)); have hB := setHiB hB hszp hzl 3 (.int .i64 (x2 : Int)); have h6 := h6.set_ 3 (.int .i64 (x2 : Int)); have o6 := own_ne o6 h6 (by decide : (3 : Nat) ≠ 31) 4 (.int .i64 (x3 : Int)); have hz := Blk.farHi hz hszp hzl 4 (.int .i64 (x3 : Int)); have hB := setHiB hB hszp hzl 4 (.int .i64 (x3 : Int)); have h6 := h6.set_ 4 (.int .i64 (x3 : Int)); replace h6 : Blk _ _ 31 #[.slice A6 q c6, .int .i64 (x0 : Int), .int .i64 (x1 : Int), .int .i64 (x2 : Int), .int .i64 (x3 : Int)] := h6))
      try simp only [Act.put, List.setIfInBounds_toArray, List.set_cons_zero, List.set_cons_succ]
      refine wpAnyH_done (by kernel_rfl) ?_ _
      simp only [NoP]
      have RI := own_reads o6
      have HCK := Lib.hid (fun W (h : RdI W W.heap.size A6 q (toI t)) => recheck11_any A6 q c6 (toI t) (x0 : Int) (x1 : Int) (x2 : Int) (x3 : Int) W h (by omega))
      have s0 := (h6.cell 0).trans (show _ = some (.slice A6 q c6) from rfl); have s1 := (h6.cell 1).trans (show _ = some (.int .i64 (x0 : Int)) from rfl); have s2 := (h6.cell 2).trans (show _ = some (.int .i64 (x1 : Int)) from rfl); have s3 := (h6.cell 3).trans (show _ = some (.int .i64 (x2 : Int)) from rfl); have s4 := (h6.cell 4).trans (show _ = some (.int .i64 (x3 : Int)) from rfl)
      have z0 := (hz.cell 0).trans (show _ = some (.slice none 0 0) from rfl); have zf0 := hz.frozen 0; have z1 := (hz.cell 1).trans (show _ = some (.int .i64 0) from rfl); have zf1 := hz.frozen 1; have z2 := (hz.cell 2).trans (show _ = some (.int .i64 0) from rfl); have zf2 := hz.frozen 2; have z3 := (hz.cell 3).trans (show _ = some (.int .i64 0) from rfl); have zf3 := hz.frozen 3; have z4 := (hz.cell 4).trans (show _ = some (.int .i64 0) from rfl); have zf4 := hz.frozen 4
      go_wp2_with fail
      refine (HCK.out _ RI).mono ?_
      rintro e w10 ⟨rfl, b⟩
      have hz10 := hz.below b hz.lt
      have h610 := h6.below b h6.lt
      have hB10 := hB.trans (b.mono hB.size)
      have o10 := own_call o6 b
      have t0 : w10.cell? ⟨w.heap.size, 0, none⟩ = some (.slice none 0 0) := (hz10.cell 0).trans rfl
      have t1 : w10.cell? ⟨w.heap.size, 1, none⟩ = some (.int .i64 0) := (hz10.cell 1).trans rfl
      have t2 : w10.cell? ⟨w.heap.size, 2, none⟩ = some (.int .i64 0) := (hz10.cell 2).trans rfl
      have t3 : w10.cell? ⟨w.heap.size, 3, none⟩ = some (.int .i64 0) := (hz10.cell 3).trans rfl
      have t4 : w10.cell? ⟨w.heap.size, 4, none⟩ = some (.int .i64 0) := (hz10.cell 4).trans rfl
      have tf0 := hz10.frozen 0
      have tf1 := hz10.frozen 1
      have tf2 := hz10.frozen 2
      have tf3 := hz10.frozen 3
      have tf4 := hz10.frozen 4
      have u0 := (h610.cell 0).trans (show _ = some (.slice A6 q c6) from rfl); have u1 := (h610.cell 1).trans (show _ = some (.int .i64 (x0 : Int)) from rfl); have u2 := (h610.cell 2).trans (show _ = some (.int .i64 (x1 : Int)) from rfl); have u3 := (h610.cell 3).trans (show _ = some (.int .i64 (x2 : Int)) from rfl); have u4 := (h610.cell 4).trans (show _ = some (.int .i64 (x3 : Int)) from rfl)
      cases hsc : scB (x0 : Int) (x1 : Int) (x2 : Int) (x3 : Int) (toI t)
      · have HE := Lib.hid (show dcE l = 12 from by rw [HD.out, HF.out.1, hsc]; rfl)
        have HV := Lib.hid (show scE (x0 : Int) (x1 : Int) (x2 : Int) (x3 : Int) (toI t) = 8 from by simp [scE, hsc])
        clear hsc
        rw [HV.out]
        go_wp2_with fail
        refine ret_c1 rfl scrT rfl (by repeat (first | with_reducible exact hz10 | with_reducible (apply Blk.set_) | with_reducible (apply Blk.far; case hp => (simp <;> omega)) | with_reducible (apply Blk.alloc) | with_reducible (apply Blk.drew))) (by rfl) ?_
        unfold DcPost
        exact ⟨none, 0, by rw [HE.out]; rfl, by rw [HE.out]; exact World.ownsRow_nil _ _ _ _, (by have hs_ := hB10.size; repeat (first | with_reducible exact hB10 | with_reducible (refine Below.setCell ?_ (by simp <;> omega) _) | with_reducible (refine Below.alloc ?_ (by simp <;> omega) _) | with_reducible (refine Below.drew ?_)))⟩
      
      · have hd : dcB l = true := by rw [HF.out.1, hsc]
        have HE := Lib.hid (show dcE l = 0 from by rw [HD.out, hd]; rfl)
        have HV := Lib.hid (show scE (x0 : Int) (x1 : Int) (x2 : Int) (x3 : Int) (toI t) = 0 from by simp [scE, hsc])
        obtain ⟨f1, f2, f3, f4, f0⟩ := HF.out.2 hd
        have F0 := Lib.hid (show (if dcE l = 0 then toI (r6 l).1 else []) = toI t from by rw [HE.out, if_pos rfl, f0])
        have F1 := Lib.hid (show (if dcE l = 0 then ((r1 l).1 : Int) else 0) = (x0 : Int) from by rw [HE.out, if_pos rfl, f1])
        have F2 := Lib.hid (show (if dcE l = 0 then ((r2 l).1 : Int) else 0) = (x1 : Int) from by rw [HE.out, if_pos rfl, f2])
        have F3 := Lib.hid (show (if dcE l = 0 then ((r3 l).1 : Int) else 0) = (x2 : Int) from by rw [HE.out, if_pos rfl, f3])
        have F4 := Lib.hid (show (if dcE l = 0 then ((r4 l).1 : Int) else 0) = (x3 : Int) from by rw [HE.out, if_pos rfl, f4])
        clear hsc hd f0 f1 f2 f3 f4
        rw [HV.out]
        go_wp2_with fail
        refine ret_c1 rfl scrT rfl (by repeat (first | with_reducible exact hz10 | with_reducible (apply Blk.set_) | with_reducible (apply Blk.far; case hp => (simp <;> omega)) | with_reducible (apply Blk.alloc) | with_reducible (apply Blk.drew))) (by rfl) ?_
        unfold DcPost
        exact ⟨A6, c6, by rw [F0.out, F1.out, F2.out, F3.out, F4.out, HE.out, HTL.out]; rfl, by rw [F0.out, HTL.out]; exact own_low (own_far (own_far (own_far (own_far (own_far o10 (by omega) _) (by omega) _) (by omega) _) (by omega) _) (by omega) _) (by omega), (by have hs_ := hB10.size; repeat (first | with_reducible exact hB10 | with_reducible (refine Below.setCell ?_ (by simp <;> omega) _) | with_reducible (refine Below.alloc ?_ (by simp <;> omega) _) | with_reducible (refine Below.drew ?_)))⟩
    · go_simp
      have hBp := hB; have hzp := hz; have hszp := hsz; (try (have o6p := o6)); have b := alE hB (.cells #[.slice none 0 0, .int .i64 0, .int .i64 0, .int .i64 0, .int .i64 0] 31); have h6 := newB hB 31 #[.slice none 0 0, .int .i64 0, .int .i64 0, .int .i64 0, .int .i64 0]; (try rw [alloc_size] at h6); (try rw [alloc_size] at hszp); have hx := BelowX.of (Below.mono b hsz) w1.heap.size; have R5 := R5.below (Below.mono b hsz); have hz := hz.below b hz.lt; have hB := hB.trans (Below.mono b hB.size); have hsz := Nat.le_trans hsz (Below.size b); (try (have o5 := own_call o5 b)); (try (have o6 := own_call o6 b)); refine hK _ _ hx ?_
      try simp only [Act.put, List.setIfInBounds_toArray, List.set_cons_zero, List.set_cons_succ]
      refine bx_step (i := 16) (oi := ?oia16x21) (by kernel_rfl) ?hia16x21 ?hwa16x21 (fun K hK => ?_)
      case hia16x21 => simp only [List.getElem?_toArray, List.getElem?_cons_zero, List.getElem?_cons_succ]; rfl
      case hwa16x21 => rfl
      (refine wp_app (.tmp 46) (.tmp 48) _ (by rfl) slI w1.heap.size _ 0 [] (by rfl) o5 _ (sA (some ad) c1 5) q _ ((toI t).map vI) (by rfl) R5 (vI_one _) (by omega) hsz ?_; intro A6 c6 w6 o6 hg6 b6 hc6; rw [Nat.zero_add, List.nil_append] at o6; rw [Nat.zero_add]; (try (have h6 := h6.grown hg6 (fun h => own_blk_ne o5 h6 (by decide : (3 : Nat) ≠ 31) h.symm))); have hz := hz.below b6 hzl; have hB := hB.trans (b6.mono (Nat.le_of_lt hzl)); have hsz := Nat.le_trans hsz b6.size; have R5 := R5.below b6; refine hK _ _ (BelowX.of b6 _) ?_)
      try simp only [Act.put, List.setIfInBounds_toArray, List.set_cons_zero, List.set_cons_succ]
      refine bx_take (i := 17) (oi := ?oia17x22) (v := ?va17x22) ?hia17x22 (by kernel_rfl) (by kernel_rfl) (by kernel_rfl) hQ ?hwa17x22 ?hya17x22 ?resta17x22
      case hia17x22 => simp only [List.getElem?_toArray, List.getElem?_cons_zero, List.getElem?_cons_succ]; rfl
      case hwa17x22 => rfl
      case hya17x22 => intro W hW; go_simp; with_reducible rfl
      simp only [Act.put, List.setIfInBounds_toArray, List.set_cons_zero, List.set_cons_succ]
      refine bx_step (i := 19) (oi := ?oia19x23) (by kernel_rfl) ?hia19x23 ?hwa19x23 (fun K hK => ?_)
      case hia19x23 => simp only [List.getElem?_toArray, List.getElem?_cons_zero, List.getElem?_cons_succ]; rfl
      case hwa19x23 => rfl
      (have s0 := (h6.cell 0).trans (show _ = some (.slice none 0 0) from rfl); have f0 := h6.frozen 0; have s1 := (h6.cell 1).trans (show _ = some (.int .i64 0) from rfl); have f1 := h6.frozen 1; have s2 := (h6.cell 2).trans (show _ = some (.int .i64 0) from rfl); have f2 := h6.frozen 2; have s3 := (h6.cell 3).trans (show _ = some (.int .i64 0) from rfl); have f3 := h6.frozen 3; have s4 := (h6.cell 4).trans (show _ = some (.int .i64 0) from rfl); have f4 := h6.frozen 4; go_simp; clear s0 f0; clear s1 f1; clear s2 f2; clear s3 f3; clear s4 f4; first | (refine hK _ _ (bx_alloc2 hszp _ _) ?_; have b := alE hBp (.cells #[.slice A6 q c6, .int .i64 (x0 : Int), .int .i64 (x1 : Int), .int .i64 (x2 : Int), .int .i64 (x3 : Int)] 31); have h6 := newB hBp 31 #[.slice A6 q c6, .int .i64 (x0 : Int), .int .i64 (x1 : Int), .int .i64 (x2 : Int), .int .i64 (x3 : Int)]; have hz := hzp.below b hzp.lt; have hB := hBp.trans (Below.mono b hBp.size); have o6 := own_call o6p b) | (refine hK _ _ ((((((BelowX.refl w1.heap.size w1.heap.size _).setHi hszp 0 (.slice A6 q c6)).setHi hszp 1 (.int .i64 (x0 : Int))).setHi hszp 2 (.int .i64 (x1 : Int))).setHi hszp 3 (.int .i64 (x2 : Int))).setHi hszp 4 (.int .i64 (x3 : Int))) ?_; have o6 := own_ne o6 h6 (by decide : (3 : Nat) ≠ 31) 0 (.slice A6 q c6); have hz := Blk.farHi hz hszp hzl 0 (.slice A6 q c6); have hB := setHiB hB hszp hzl 0 (.slice A6 q c6); have h6 := h6.set_ 0 (.slice A6 q c6); have o6 := own_ne o6 h6 (by decide : (3 : Nat) ≠ 31) 1 (.int .i64 (x0 : Int)); have hz := Blk.farHi hz hszp hzl 1 (.int .i64 (x0 : Int)); have hB := setHiB hB hszp hzl 1 (.int .i64 (x0 : Int)); have h6 := h6.set_ 1 (.int .i64 (x0 : Int)); have o6 := own_ne o6 h6 (by decide : (3 : Nat) ≠ 31) 2 (.int .i64 (x1 : Int)); have hz := Blk.farHi hz hszp hzl 2 (.int .i64 (x1 : Int)); have hB := setHiB hB hszp hzl 2 (.int .i64 (x1 : Int)); have h6 := h6.set_ 2 (.int .i64 (x1 : Int)); have o6 := own_ne o6 h6 (by decide : (3 : Nat) ≠ 31) 3 (.int .i64 (x2 : Int)); have hz := Blk.farHi hz hszp hzl 3 (.int .i64 (x2 : Int)); have hB := setHiB hB hszp hzl 3 (.int .i64 (x2 : Int)); have h6 := h6.set_ 3 (.int .i64 (x2 : Int)); have o6 := own_ne o6 h6 (by decide : (3 : Nat) ≠ 31) 4 (.int .i64 (x3 : Int)); have hz := Blk.farHi hz hszp hzl 4 (.int .i64 (x3 : Int)); have hB := setHiB hB hszp hzl 4 (.int .i64 (x3 : Int)); have h6 := h6.set_ 4 (.int .i64 (x3 : Int)); replace h6 : Blk _ _ 31 #[.slice A6 q c6, .int .i64 (x0 : Int), .int .i64 (x1 : Int), .int .i64 (x2 : Int), .int .i64 (x3 : Int)] := h6))
      try simp only [Act.put, List.setIfInBounds_toArray, List.set_cons_zero, List.set_cons_succ]
      refine wpAnyH_done (by kernel_rfl) ?_ _
      simp only [NoP]
      have RI := own_reads o6
      have HCK := Lib.hid (fun W (h : RdI W W.heap.size A6 q (toI t)) => recheck11_any A6 q c6 (toI t) (x0 : Int) (x1 : Int) (x2 : Int) (x3 : Int) W h (by omega))
      have s0 := (h6.cell 0).trans (show _ = some (.slice A6 q c6) from rfl); have s1 := (h6.cell 1).trans (show _ = some (.int .i64 (x0 : Int)) from rfl); have s2 := (h6.cell 2).trans (show _ = some (.int .i64 (x1 : Int)) from rfl); have s3 := (h6.cell 3).trans (show _ = some (.int .i64 (x2 : Int)) from rfl); have s4 := (h6.cell 4).trans (show _ = some (.int .i64 (x3 : Int)) from rfl)
      have z0 := (hz.cell 0).trans (show _ = some (.slice none 0 0) from rfl); have zf0 := hz.frozen 0; have z1 := (hz.cell 1).trans (show _ = some (.int .i64 0) from rfl); have zf1 := hz.frozen 1; have z2 := (hz.cell 2).trans (show _ = some (.int .i64 0) from rfl); have zf2 := hz.frozen 2; have z3 := (hz.cell 3).trans (show _ = some (.int .i64 0) from rfl); have zf3 := hz.frozen 3; have z4 := (hz.cell 4).trans (show _ = some (.int .i64 0) from rfl); have zf4 := hz.frozen 4
      go_wp2_with fail
      refine (HCK.out _ RI).mono ?_
      rintro e w10 ⟨rfl, b⟩
      have hz10 := hz.below b hz.lt
      have h610 := h6.below b h6.lt
      have hB10 := hB.trans (b.mono hB.size)
      have o10 := own_call o6 b
      have t0 : w10.cell? ⟨w.heap.size, 0, none⟩ = some (.slice none 0 0) := (hz10.cell 0).trans rfl
      have t1 : w10.cell? ⟨w.heap.size, 1, none⟩ = some (.int .i64 0) := (hz10.cell 1).trans rfl
      have t2 : w10.cell? ⟨w.heap.size, 2, none⟩ = some (.int .i64 0) := (hz10.cell 2).trans rfl
      have t3 : w10.cell? ⟨w.heap.size, 3, none⟩ = some (.int .i64 0) := (hz10.cell 3).trans rfl
      have t4 : w10.cell? ⟨w.heap.size, 4, none⟩ = some (.int .i64 0) := (hz10.cell 4).trans rfl
      have tf0 := hz10.frozen 0
      have tf1 := hz10.frozen 1
      have tf2 := hz10.frozen 2
      have tf3 := hz10.frozen 3
      have tf4 := hz10.frozen 4
      have u0 := (h610.cell 0).trans (show _ = some (.slice A6 q c6) from rfl); have u1 := (h610.cell 1).trans (show _ = some (.int .i64 (x0 : Int)) from rfl); have u2 := (h610.cell 2).trans (show _ = some (.int .i64 (x1 : Int)) from rfl); have u3 := (h610.cell 3).trans (show _ = some (.int .i64 (x2 : Int)) from rfl); have u4 := (h610.cell 4).trans (show _ = some (.int .i64 (x3 : Int)) from rfl)
      cases hsc : scB (x0 : Int) (x1 : Int) (x2 : Int) (x3 : Int) (toI t)
      · have HE := Lib.hid (show dcE l = 12 from by rw [HD.out, HF.out.1, hsc]; rfl)
        have HV := Lib.hid (show scE (x0 : Int) (x1 : Int) (x2 : Int) (x3 : Int) (toI t) = 8 from by simp [scE, hsc])
        clear hsc
        rw [HV.out]
        go_wp2_with fail
        refine ret_c1 rfl scrT rfl (by repeat (first | with_reducible exact hz10 | with_reducible (apply Blk.set_) | with_reducible (apply Blk.far; case hp => (simp <;> omega)) | with_reducible (apply Blk.alloc) | with_reducible (apply Blk.drew))) (by rfl) ?_
        unfold DcPost
        exact ⟨none, 0, by rw [HE.out]; rfl, by rw [HE.out]; exact World.ownsRow_nil _ _ _ _, (by have hs_ := hB10.size; repeat (first | with_reducible exact hB10 | with_reducible (refine Below.setCell ?_ (by simp <;> omega) _) | with_reducible (refine Below.alloc ?_ (by simp <;> omega) _) | with_reducible (refine Below.drew ?_)))⟩
      
      · have hd : dcB l = true := by rw [HF.out.1, hsc]
        have HE := Lib.hid (show dcE l = 0 from by rw [HD.out, hd]; rfl)
        have HV := Lib.hid (show scE (x0 : Int) (x1 : Int) (x2 : Int) (x3 : Int) (toI t) = 0 from by simp [scE, hsc])
        obtain ⟨f1, f2, f3, f4, f0⟩ := HF.out.2 hd
        have F0 := Lib.hid (show (if dcE l = 0 then toI (r6 l).1 else []) = toI t from by rw [HE.out, if_pos rfl, f0])
        have F1 := Lib.hid (show (if dcE l = 0 then ((r1 l).1 : Int) else 0) = (x0 : Int) from by rw [HE.out, if_pos rfl, f1])
        have F2 := Lib.hid (show (if dcE l = 0 then ((r2 l).1 : Int) else 0) = (x1 : Int) from by rw [HE.out, if_pos rfl, f2])
        have F3 := Lib.hid (show (if dcE l = 0 then ((r3 l).1 : Int) else 0) = (x2 : Int) from by rw [HE.out, if_pos rfl, f3])
        have F4 := Lib.hid (show (if dcE l = 0 then ((r4 l).1 : Int) else 0) = (x3 : Int) from by rw [HE.out, if_pos rfl, f4])
        clear hsc hd f0 f1 f2 f3 f4
        rw [HV.out]
        go_wp2_with fail
        refine ret_c1 rfl scrT rfl (by repeat (first | with_reducible exact hz10 | with_reducible (apply Blk.set_) | with_reducible (apply Blk.far; case hp => (simp <;> omega)) | with_reducible (apply Blk.alloc) | with_reducible (apply Blk.drew))) (by rfl) ?_
        unfold DcPost
        exact ⟨A6, c6, by rw [F0.out, F1.out, F2.out, F3.out, F4.out, HE.out, HTL.out]; rfl, by rw [F0.out, HTL.out]; exact own_low (own_far (own_far (own_far (own_far (own_far o10 (by omega) _) (by omega) _) (by omega) _) (by omega) _) (by omega) _) (by omega), (by have hs_ := hB10.size; repeat (first | with_reducible exact hB10 | with_reducible (refine Below.setCell ?_ (by simp <;> omega) _) | with_reducible (refine Below.alloc ?_ (by simp <;> omega) _) | with_reducible (refine Below.drew ?_)))⟩
  · go_simp
    have hBp := hB; have hzp := hz; have hszp := hsz; (try (have o6p := o6)); have b := alE hB (.cells #[.slice none 0 0, .int .i64 0, .int .i64 0, .int .i64 0, .int .i64 0] 31); have h6 := newB hB 31 #[.slice none 0 0, .int .i64 0, .int .i64 0, .int .i64 0, .int .i64 0]; (try rw [alloc_size] at h6); (try rw [alloc_size] at hszp); have hx := BelowX.of (Below.mono b hsz) w1.heap.size; have R5 := R5.below (Below.mono b hsz); have hz := hz.below b hz.lt; have hB := hB.trans (Below.mono b hB.size); have hsz := Nat.le_trans hsz (Below.size b); (try (have o5 := own_call o5 b)); (try (have o6 := own_call o6 b)); refine hK _ _ hx ?_
    try simp only [Act.put, List.setIfInBounds_toArray, List.set_cons_zero, List.set_cons_succ]
    refine bx_step (i := 13) (oi := ?oia13x24) (by kernel_rfl) ?hia13x24 ?hwa13x24 (fun K hK => ?_)
    case hia13x24 => simp only [List.getElem?_toArray, List.getElem?_cons_zero, List.getElem?_cons_succ]; rfl
    case hwa13x24 => rfl
    go_simp
    have b := alE hB (.cells #[] 3); have o5 := own_empty _ hsz 3 1; (try rw [alloc_size] at o5); have hx := BelowX.of (Below.mono b hsz) w1.heap.size; have R5 := R5.below (Below.mono b hsz); have hz := hz.below b hz.lt; have hB := hB.trans (Below.mono b hB.size); have hsz := Nat.le_trans hsz (Below.size b); (try (have h6 := h6.below b h6.lt)); refine hK _ _ hx ?_
    try simp only [Act.put, List.setIfInBounds_toArray, List.set_cons_zero, List.set_cons_succ]
    refine bx_step (i := 16) (oi := ?oia16x25) (by kernel_rfl) ?hia16x25 ?hwa16x25 (fun K hK => ?_)
    case hia16x25 => simp only [List.getElem?_toArray, List.getElem?_cons_zero, List.getElem?_cons_succ]; rfl
    case hwa16x25 => rfl
    (refine wp_app (.tmp 46) (.tmp 48) _ (by rfl) slI w1.heap.size _ 0 [] (by rfl) o5 _ (sA (some ad) c1 5) q _ ((toI t).map vI) (by rfl) R5 (vI_one _) (by omega) hsz ?_; intro A6 c6 w6 o6 hg6 b6 hc6; rw [Nat.zero_add, List.nil_append] at o6; rw [Nat.zero_add]; (try (have h6 := h6.grown hg6 (fun h => own_blk_ne o5 h6 (by decide : (3 : Nat) ≠ 31) h.symm))); have hz := hz.below b6 hzl; have hB := hB.trans (b6.mono (Nat.le_of_lt hzl)); have hsz := Nat.le_trans hsz b6.size; have R5 := R5.below b6; refine hK _ _ (BelowX.of b6 _) ?_)
    try simp only [Act.put, List.setIfInBounds_toArray, List.set_cons_zero, List.set_cons_succ]
    refine bx_take (i := 17) (oi := ?oia17x26) (v := ?va17x26) ?hia17x26 (by kernel_rfl) (by kernel_rfl) (by kernel_rfl) hQ ?hwa17x26 ?hya17x26 ?resta17x26
    case hia17x26 => simp only [List.getElem?_toArray, List.getElem?_cons_zero, List.getElem?_cons_succ]; rfl
    case hwa17x26 => rfl
    case hya17x26 => intro W hW; go_simp; with_reducible rfl
    simp only [Act.put, List.setIfInBounds_toArray, List.set_cons_zero, List.set_cons_succ]
    refine bx_step (i := 19) (oi := ?oia19x27) (by kernel_rfl) ?hia19x27 ?hwa19x27 (fun K hK => ?_)
    case hia19x27 => simp only [List.getElem?_toArray, List.getElem?_cons_zero, List.getElem?_cons_succ]; rfl
    case hwa19x27 => rfl
    (have s0 := (h6.cell 0).trans (show _ = some (.slice none 0 0) from rfl); have f0 := h6.frozen 0; have s1 := (h6.cell 1).trans (show _ = some (.int .i64 0) from rfl); have f1 := h6.frozen 1; have s2 := (h6.cell 2).trans (show _ = some (.int .i64 0) from rfl); have f2 := h6.frozen 2; have s3 := (h6.cell 3).trans (show _ = some (.int .i64 0) from rfl); have f3 := h6.frozen 3; have s4 := (h6.cell 4).trans (show _ = some (.int .i64 0) from rfl); have f4 := h6.frozen 4; go_simp; clear s0 f0; clear s1 f1; clear s2 f2; clear s3 f3; clear s4 f4; first | (refine hK _ _ (bx_alloc2 hszp _ _) ?_; have b := alE hBp (.cells #[.slice A6 q c6, .int .i64 (x0 : Int), .int .i64 (x1 : Int), .int .i64 (x2 : Int), .int .i64 (x3 : Int)] 31); have h6 := newB hBp 31 #[.slice A6 q c6, .int .i64 (x0 : Int), .int .i64 (x1 : Int), .int .i64 (x2 : Int), .int .i64 (x3 : Int)]; have hz := hzp.below b hzp.lt; have hB := hBp.trans (Below.mono b hBp.size); have o6 := own_call o6p b) | (refine hK _ _ ((((((BelowX.refl w1.heap.size w1.heap.size _).setHi hszp 0 (.slice A6 q c6)).setHi hszp 1 (.int .i64 (x0 : Int))).setHi hszp 2 (.int .i64 (x1 : Int))).setHi hszp 3 (.int .i64 (x2 : Int))).setHi hszp 4 (.int .i64 (x3 : Int))) ?_; have o6 := own_ne o6 h6 (by decide : (3 : Nat) ≠ 31) 0 (.slice A6 q c6); have hz := Blk.farHi hz hszp hzl 0 (.slice A6 q c6); have hB := setHiB hB hszp hzl 0 (.slice A6 q c6); have h6 := h6.set_ 0 (.slice A6 q c6); have o6 := own_ne o6 h6 (by decide : (3 : Nat) ≠ 31) 1 (.int .i64 (x0 : Int)); have hz := Blk.farHi hz hszp hzl 1 (.int .i64 (x0 : Int)); have hB := setHiB hB hszp hzl 1 (.int .i64 (x0 : Int)); have h6 := h6.set_ 1 (.int .i64 (x0 : Int)); have o6 := own_ne o6 h6 (by decide : (3 : Nat) ≠ 31) 2 (.int .i64 (x1 : Int)); have hz := Blk.farHi hz hszp hzl 2 (.int .i64 (x1 : Int)); have hB := setHiB hB hszp hzl 2 (.int .i64 (x1 : Int)); have h6 := h6.set_ 2 (.int .i64 (x1 : Int)); have o6 := own_ne o6 h6 (by decide : (3 : Nat) ≠ 31) 3 (.int .i64 (x2 : Int)); have hz := Blk.farHi hz hszp hzl 3 (.int .i64 (x2 : Int)); have hB := setHiB hB hszp hzl 3 (.int .i64 (x2 : Int)); have h6 := h6.set_ 3 (.int .i64 (x2 : Int)); have o6 := own_ne o6 h6 (by decide : (3 : Nat) ≠ 31) 4 (.int .i64 (x3 : Int)); have hz := Blk.farHi hz hszp hzl 4 (.int .i64 (x3 : Int)); have hB := setHiB hB hszp hzl 4 (.int .i64 (x3 : Int)); have h6 := h6.set_ 4 (.int .i64 (x3 : Int)); replace h6 : Blk _ _ 31 #[.slice A6 q c6, .int .i64 (x0 : Int), .int .i64 (x1 : Int), .int .i64 (x2 : Int), .int .i64 (x3 : Int)] := h6))
    try simp only [Act.put, List.setIfInBounds_toArray, List.set_cons_zero, List.set_cons_succ]
    refine wpAnyH_done (by kernel_rfl) ?_ _
    simp only [NoP]
    have RI := own_reads o6
    have HCK := Lib.hid (fun W (h : RdI W W.heap.size A6 q (toI t)) => recheck11_any A6 q c6 (toI t) (x0 : Int) (x1 : Int) (x2 : Int) (x3 : Int) W h (by omega))
    have s0 := (h6.cell 0).trans (show _ = some (.slice A6 q c6) from rfl); have s1 := (h6.cell 1).trans (show _ = some (.int .i64 (x0 : Int)) from rfl); have s2 := (h6.cell 2).trans (show _ = some (.int .i64 (x1 : Int)) from rfl); have s3 := (h6.cell 3).trans (show _ = some (.int .i64 (x2 : Int)) from rfl); have s4 := (h6.cell 4).trans (show _ = some (.int .i64 (x3 : Int)) from rfl)
    have z0 := (hz.cell 0).trans (show _ = some (.slice none 0 0) from rfl); have zf0 := hz.frozen 0; have z1 := (hz.cell 1).trans (show _ = some (.int .i64 0) from rfl); have zf1 := hz.frozen 1; have z2 := (hz.cell 2).trans (show _ = some (.int .i64 0) from rfl); have zf2 := hz.frozen 2; have z3 := (hz.cell 3).trans (show _ = some (.int .i64 0) from rfl); have zf3 := hz.frozen 3; have z4 := (hz.cell 4).trans (show _ = some (.int .i64 0) from rfl); have zf4 := hz.frozen 4
    go_wp2_with fail
    refine (HCK.out _ RI).mono ?_
    rintro e w10 ⟨rfl, b⟩
    have hz10 := hz.below b hz.lt
    have h610 := h6.below b h6.lt
    have hB10 := hB.trans (b.mono hB.size)
    have o10 := own_call o6 b
    have t0 : w10.cell? ⟨w.heap.size, 0, none⟩ = some (.slice none 0 0) := (hz10.cell 0).trans rfl
    have t1 : w10.cell? ⟨w.heap.size, 1, none⟩ = some (.int .i64 0) := (hz10.cell 1).trans rfl
    have t2 : w10.cell? ⟨w.heap.size, 2, none⟩ = some (.int .i64 0) := (hz10.cell 2).trans rfl
    have t3 : w10.cell? ⟨w.heap.size, 3, none⟩ = some (.int .i64 0) := (hz10.cell 3).trans rfl
    have t4 : w10.cell? ⟨w.heap.size, 4, none⟩ = some (.int .i64 0) := (hz10.cell 4).trans rfl
    have tf0 := hz10.frozen 0
    have tf1 := hz10.frozen 1
    have tf2 := hz10.frozen 2
    have tf3 := hz10.frozen 3
    have tf4 := hz10.frozen 4
    have u0 := (h610.cell 0).trans (show _ = some (.slice A6 q c6) from rfl); have u1 := (h610.cell 1).trans (show _ = some (.int .i64 (x0 : Int)) from rfl); have u2 := (h610.cell 2).trans (show _ = some (.int .i64 (x1 : Int)) from rfl); have u3 := (h610.cell 3).trans (show _ = some (.int .i64 (x2 : Int)) from rfl); have u4 := (h610.cell 4).trans (show _ = some (.int .i64 (x3 : Int)) from rfl)
    cases hsc : scB (x0 : Int) (x1 : Int) (x2 : Int) (x3 : Int) (toI t)
    · have HE := Lib.hid (show dcE l = 12 from by rw [HD.out, HF.out.1, hsc]; rfl)
      have HV := Lib.hid (show scE (x0 : Int) (x1 : Int) (x2 : Int) (x3 : Int) (toI t) = 8 from by simp [scE, hsc])
      clear hsc
      rw [HV.out]
      go_wp2_with fail
      refine ret_c1 rfl scrT rfl (by repeat (first | with_reducible exact hz10 | with_reducible (apply Blk.set_) | with_reducible (apply Blk.far; case hp => (simp <;> omega)) | with_reducible (apply Blk.alloc) | with_reducible (apply Blk.drew))) (by rfl) ?_
      unfold DcPost
      exact ⟨none, 0, by rw [HE.out]; rfl, by rw [HE.out]; exact World.ownsRow_nil _ _ _ _, (by have hs_ := hB10.size; repeat (first | with_reducible exact hB10 | with_reducible (refine Below.setCell ?_ (by simp <;> omega) _) | with_reducible (refine Below.alloc ?_ (by simp <;> omega) _) | with_reducible (refine Below.drew ?_)))⟩
    
    · have hd : dcB l = true := by rw [HF.out.1, hsc]
      have HE := Lib.hid (show dcE l = 0 from by rw [HD.out, hd]; rfl)
      have HV := Lib.hid (show scE (x0 : Int) (x1 : Int) (x2 : Int) (x3 : Int) (toI t) = 0 from by simp [scE, hsc])
      obtain ⟨f1, f2, f3, f4, f0⟩ := HF.out.2 hd
      have F0 := Lib.hid (show (if dcE l = 0 then toI (r6 l).1 else []) = toI t from by rw [HE.out, if_pos rfl, f0])
      have F1 := Lib.hid (show (if dcE l = 0 then ((r1 l).1 : Int) else 0) = (x0 : Int) from by rw [HE.out, if_pos rfl, f1])
      have F2 := Lib.hid (show (if dcE l = 0 then ((r2 l).1 : Int) else 0) = (x1 : Int) from by rw [HE.out, if_pos rfl, f2])
      have F3 := Lib.hid (show (if dcE l = 0 then ((r3 l).1 : Int) else 0) = (x2 : Int) from by rw [HE.out, if_pos rfl, f3])
      have F4 := Lib.hid (show (if dcE l = 0 then ((r4 l).1 : Int) else 0) = (x3 : Int) from by rw [HE.out, if_pos rfl, f4])
      clear hsc hd f0 f1 f2 f3 f4
      rw [HV.out]
      go_wp2_with fail
      refine ret_c1 rfl scrT rfl (by repeat (first | with_reducible exact hz10 | with_reducible (apply Blk.set_) | with_reducible (apply Blk.far; case hp => (simp <;> omega)) | with_reducible (apply Blk.alloc) | with_reducible (apply Blk.drew))) (by rfl) ?_
      unfold DcPost
      exact ⟨A6, c6, by rw [F0.out, F1.out, F2.out, F3.out, F4.out, HE.out, HTL.out]; rfl, by rw [F0.out, HTL.out]; exact own_low (own_far (own_far (own_far (own_far (own_far o10 (by omega) _) (by omega) _) (by omega) _) (by omega) _) (by omega) _) (by omega), (by have hs_ := hB10.size; repeat (first | with_reducible exact hB10 | with_reducible (refine Below.setCell ?_ (by simp <;> omega) _) | with_reducible (refine Below.alloc ?_ (by simp <;> omega) _) | with_reducible (refine Below.drew ?_)))⟩

end Go.Proofs.Ytgobebiagpejkaa
