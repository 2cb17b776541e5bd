/- Contracts and laws of a chapter that its statement of names leans on. Each states its conditions. -/
import Derived.Test.YtldaijkcmnnjpaaScr8
namespace Go.Proofs.Ytldaijkcmnnjpaa
open Go.RowKit Wire
set_option linter.unusedVariables false
theorem BelowE {p q B : Nat} {w0 w w' : World} (h : Below B w0 w) (hx : Ex2 p q w w') (hB : B ≤ w.heap.size) (hp : B ≤ p) (hq : B ≤ q) : Below B w0 w' := h.trans (hx.below hB hp hq)
def dcE (l : List UInt8) : Int := if 6100 < l.length then 4 else if dcB l then 0 else 12
theorem gs_bd (l : List UInt8) (s : Option Nat) (most : Nat) : (gs l s most).1 ≤ most := by
  cases s with
  | none => simp [gs]
  | some k =>
    simp only [gs]
    split
    · rename_i h; exact (uv_zero h).2.2
    · simp
theorem gsJ_bd (l : List UInt8) (s : Option Nat) (most j : Nat) : ∀ v ∈ (gsJ l s most j).1, v ≤ most := by
  induction j with
  | zero => simp [gsJ]
  | succ j ih =>
    intro v hv
    simp only [gsJ, List.mem_append, List.mem_singleton] at hv
    rcases hv with hv | hv
    · exact ih v hv
    · rw [hv]; exact gs_bd _ _ _
def DcPost (w : World) (l : List UInt8) (e : Ending) (w' : World) : Prop := ∃ A' c', e = .returned (.tuple #[scr A' (if dcE l = 0 then toI (r6 l).1 else []).length c' (if dcE l = 0 then ((r1 l).1 : Int) else 0) (if dcE l = 0 then ((r2 l).1 : Int) else 0) (if dcE l = 0 then ((r3 l).1 : Int) else 0) (if dcE l = 0 then ((r4 l).1 : Int) else 0), .int .i64 (dcE l)]) ∧ w'.ownsRow w.heap.size 3 1 (.slice A' (if dcE l = 0 then toI (r6 l).1 else []).length c') (if dcE l = 0 then toI (r6 l).1 else []).length ((if dcE l = 0 then toI (r6 l).1 else []).map vI) ∧ Below w.heap.size w w'
set_option maxRecDepth 100000 in
set_option maxHeartbeats 8000000 in
theorem decode_any (A : Option Addr) (n c : Nat) (l : List UInt8) (w : World) (hr : Rb w A n l) (hnc : n ≤ c) :
    Calls Try.prog 20 #[.slice A n c] w fun e w' => DcPost w l e w' := by
  by_cases hbig : 6100 < n
  · have d0 : decide ((6100 : Int) < (n : Int)) = true := by simp; omega
    have HE := Lib.hid (show dcE l = 4 from by unfold dcE; rw [if_pos (by rw [hr.len8]; exact hbig)])
    have hB := (Below.refl w.heap.size w).alloc (Nat.le_refl _) (.cells #[.slice none 0 0, .int .i64 0, .int .i64 0, .int .i64 0, .int .i64 0] 44)
    have hz := Blk.new w 44 #[.slice none 0 0, .int .i64 0, .int .i64 0, .int .i64 0, .int .i64 0]
    go_enter Try.func20, Try.ntmps20
    go_wp2_with fail
    refine ret_c1 rfl scrT rfl (by repeat (first | with_reducible exact hz | with_reducible (apply Blk.set_) | with_reducible (apply Blk.far; case hp => (simp <;> omega)) | with_reducible (apply Blk.alloc) | with_reducible (apply Blk.drew))) (by rfl) ?_
    unfold DcPost
    exact ⟨none, 0, by rw [HE.out]; rfl, by rw [HE.out]; exact World.ownsRow_nil _ _ _ _, (by have hs_ := hB.size; repeat (first | with_reducible exact hB | with_reducible (refine Below.setCell ?_ (by simp <;> omega) _) | with_reducible (refine Below.alloc ?_ (by simp <;> omega) _) | with_reducible (refine Below.drew ?_)))⟩
  have d0 : decide ((6100 : Int) < (n : Int)) = false := by simp; omega
  have HL := Lib.hid hr.len8
  have HD := Lib.hid (show dcE l = if dcB l then 0 else 12 from by unfold dcE; rw [if_neg (by rw [HL.out]; exact hbig)])
  have hB := ((((Below.refl w.heap.size w).alloc (Nat.le_refl _) (.cells #[.slice none 0 0, .int .i64 0, .int .i64 0, .int .i64 0, .int .i64 0] 44)).alloc (by simp) (.cells #[.slice A n c, .int .i64 0] 70)).alloc (by simp; omega) (.cells #[.int .i64 0] 26)).alloc (by simp; omega) (.cells #[.slice none 0 0, .int .i64 0, .int .i64 0, .int .i64 0, .int .i64 0] 44)
  have hq0 := (((Blk.new w 44 #[.slice none 0 0, .int .i64 0, .int .i64 0, .int .i64 0, .int .i64 0]).alloc (.cells #[.slice A n c, .int .i64 0] 70)).alloc (.cells #[.int .i64 0] 26)).alloc (.cells #[.slice none 0 0, .int .i64 0, .int .i64 0, .int .i64 0, .int .i64 0] 44)
  have hk4 := ((Blk.new (w.alloc (.cells #[.slice none 0 0, .int .i64 0, .int .i64 0, .int .i64 0, .int .i64 0] 44)) 70 #[.slice A n c, .int .i64 0]).alloc (.cells #[.int .i64 0] 26)).alloc (.cells #[.slice none 0 0, .int .i64 0, .int .i64 0, .int .i64 0, .int .i64 0] 44)
  have hk5 := (Blk.new ((w.alloc (.cells #[.slice none 0 0, .int .i64 0, .int .i64 0, .int .i64 0, .int .i64 0] 44)).alloc (.cells #[.slice A n c, .int .i64 0] 70)) 26 #[.int .i64 0]).alloc (.cells #[.slice none 0 0, .int .i64 0, .int .i64 0, .int .i64 0, .int .i64 0] 44)
  have h7 := Blk.new (((w.alloc (.cells #[.slice none 0 0, .int .i64 0, .int .i64 0, .int .i64 0, .int .i64 0] 44)).alloc (.cells #[.slice A n c, .int .i64 0] 70)).alloc (.cells #[.int .i64 0] 26)) 44 #[.slice none 0 0, .int .i64 0, .int .i64 0, .int .i64 0, .int .i64 0]
  simp only [alloc_size, Nat.add_assoc, Nat.reduceAdd] at hk4 hk5 h7
  have hs : Rdr ((((w.alloc (.cells #[.slice none 0 0, .int .i64 0, .int .i64 0, .int .i64 0, .int .i64 0] 44)).alloc (.cells #[.slice A n c, .int .i64 0] 70)).alloc (.cells #[.int .i64 0] 26)).alloc (.cells #[.slice none 0 0, .int .i64 0, .int .i64 0, .int .i64 0, .int .i64 0] 44)) (w.heap.size + 1) (w.heap.size + 2) A n c (some 0) := ⟨hk4, hk5, by omega⟩
  have R := hr.below hB
  have H1 := Lib.hid (show gs l (some 0) 5000 = r1 l from rfl)
  have H2 := Lib.hid (show gs l (r1 l).2 4096 = r2 l from rfl)
  have H3 := Lib.hid (show gs l (r2 l).2 16384 = r3 l from rfl)
  have H4 := Lib.hid (show gs l (r3 l).2 16 = r4 l from rfl)
  have H5 := Lib.hid (show gs l (r4 l).2 2000 = r5 l from rfl)
  have H6 := Lib.hid (show gsJ l (r5 l).2 65535 (r5 l).1 = r6 l from rfl)
  have hb1 := Lib.hid (show dcB l = (decide ((r6 l).2 = some l.length) && scB (r1 l).1 (r2 l).1 (r3 l).1 (r4 l).1 (toI (r6 l).1)) from rfl)
  have B1 := gs_bd l (some 0) 5000
  have B2 := gs_bd l (r1 l).2 4096
  have B3 := gs_bd l (r2 l).2 16384
  have B4 := gs_bd l (r3 l).2 16
  have B5 := gs_bd l (r4 l).2 2000
  rw [H1.out] at B1
  rw [H2.out] at B2
  rw [H3.out] at B3
  rw [H4.out] at B4
  rw [H5.out] at B5
  have HJL := Lib.hid (gsJ_len l (r5 l).2 65535)
  have HJB := Lib.hid (fun j => gsJ_bd l (r5 l).2 65535 j)
  have HJS := Lib.hid (fun j => show gsJ l (r5 l).2 65535 (j + 1) = ((gsJ l (r5 l).2 65535 j).1 ++ [(gs l (gsJ l (r5 l).2 65535 j).2 65535).1], (gs l (gsJ l (r5 l).2 65535 j).2 65535).2) from rfl)
  have HJ0 := Lib.hid (show gsJ l (r5 l).2 65535 0 = ([], (r5 l).2) from rfl)
  have HGB := Lib.hid (fun s => gs_bd l s 65535)
  clear hr hk4 hk5
  go_enter Try.func20, Try.ntmps20
  go_wp2_with fail
  generalize ((((w.alloc (.cells #[.slice none 0 0, .int .i64 0, .int .i64 0, .int .i64 0, .int .i64 0] 44)).alloc (.cells #[.slice A n c, .int .i64 0] 70)).alloc (.cells #[.int .i64 0] 26)).alloc (.cells #[.slice none 0 0, .int .i64 0, .int .i64 0, .int .i64 0, .int .i64 0] 44)) = w1 at *
  refine (get_any (w.heap.size + 1) (w.heap.size + 2) (by omega) A n c l _ 5000 _ (R.more hB.size) (by omega) (by omega) hs).mono ?_
  rintro e w2 ⟨rfl, hs, hx⟩
  replace R := R.below (hx.below hB.size (by omega) (by omega))
  replace hq0 := hq0.ex2 hx (by omega) (by omega)
  replace h7 := h7.ex2 hx (by omega) (by omega)
  replace hB := BelowE hB hx hB.size (by omega) (by omega)
  clear hx
  rw [H1.out] at hs ⊢
  go_wp2_with fail
  refine (get_any (w.heap.size + 1) (w.heap.size + 2) (by omega) A n c l _ 4096 _ (R.more hB.size) (by omega) (by omega) hs).mono ?_
  rintro e w3 ⟨rfl, hs, hx⟩
  replace R := R.below (hx.below hB.size (by omega) (by omega))
  replace hq0 := hq0.ex2 hx (by omega) (by omega)
  replace h7 := h7.ex2 hx (by omega) (by omega)
  replace hB := BelowE hB hx hB.size (by omega) (by omega)
  clear hx
  rw [H2.out] at hs ⊢
  generalize hAa1 : (r1 l).1 = a1 at *
  have HAa1 := Lib.hid hAa1
  clear hAa1
  generalize hAa2 : (r2 l).1 = a2 at *
  have HAa2 := Lib.hid hAa2
  clear hAa2
  have z0 : w3.cell? ⟨w.heap.size + 3, 0, none⟩ = some (.slice none 0 0) := (h7.cell 0).trans rfl
  have z1 : w3.cell? ⟨w.heap.size + 3, 1, none⟩ = some (.int .i64 0) := (h7.cell 1).trans rfl
  have z2 : w3.cell? ⟨w.heap.size + 3, 2, none⟩ = some (.int .i64 0) := (h7.cell 2).trans rfl
  have z3 : w3.cell? ⟨w.heap.size + 3, 3, none⟩ = some (.int .i64 0) := (h7.cell 3).trans rfl
  have z4 : w3.cell? ⟨w.heap.size + 3, 4, none⟩ = some (.int .i64 0) := (h7.cell 4).trans rfl
  have zf0 := h7.frozen 0
  have zf1 := h7.frozen 1
  have zf2 := h7.frozen 2
  have zf3 := h7.frozen 3
  have zf4 := h7.frozen 4
  have g7 := (h7.set_ 1 (.int .i64 (a1 : Int)))
  have y2 : (w3.setCell ⟨w.heap.size + 3, 1, none⟩ (.int .i64 (a1 : Int))).cell? ⟨w.heap.size + 3, 2, none⟩ = some (.int .i64 0) := (g7.cell 2).trans rfl
  have yf2 := g7.frozen 2
  go_wp2_with fail
  replace h7 := g7.set_ 2 (.int .i64 (a2 : Int))
  replace hs := (hs.far (g := w.heap.size + 3) 1 (.int .i64 (a1 : Int)) (by omega) (by omega)).far (g := w.heap.size + 3) 2 (.int .i64 (a2 : Int)) (by omega) (by omega)
  replace hq0 := (hq0.far (p := ⟨w.heap.size + 3, 1, none⟩) (show w.heap.size ≠ w.heap.size + 3 by omega) (.int .i64 (a1 : Int))).far (p := ⟨w.heap.size + 3, 2, none⟩) (show w.heap.size ≠ w.heap.size + 3 by omega) (.int .i64 (a2 : Int))
  replace R := (R.setCell (p := ⟨w.heap.size + 3, 1, none⟩) (show w.heap.size ≤ w.heap.size + 3 by omega) (.int .i64 (a1 : Int))).setCell (p := ⟨w.heap.size + 3, 2, none⟩) (show w.heap.size ≤ w.heap.size + 3 by omega) (.int .i64 (a2 : Int))
  replace hB := (hB.setCell (p := ⟨w.heap.size + 3, 1, none⟩) (show w.heap.size ≤ w.heap.size + 3 by omega) (.int .i64 (a1 : Int))).setCell (p := ⟨w.heap.size + 3, 2, none⟩) (show w.heap.size ≤ w.heap.size + 3 by omega) (.int .i64 (a2 : Int))
  clear g7 y2 yf2 z0 z1 z2 z3 z4 zf0 zf1 zf2 zf3 zf4
  generalize (w3.setCell ⟨w.heap.size + 3, 1, none⟩ (.int .i64 (a1 : Int))).setCell ⟨w.heap.size + 3, 2, none⟩ (.int .i64 (a2 : Int)) = w4 at *
  refine (get_any (w.heap.size + 1) (w.heap.size + 2) (by omega) A n c l _ 16384 _ (R.more hB.size) (by omega) (by omega) hs).mono ?_
  rintro e w5 ⟨rfl, hs, hx⟩
  replace R := R.below (hx.below hB.size (by omega) (by omega))
  replace hq0 := hq0.ex2 hx (by omega) (by omega)
  replace h7 := h7.ex2 hx (by omega) (by omega)
  replace hB := BelowE hB hx hB.size (by omega) (by omega)
  clear hx
  rw [H3.out] at hs ⊢
  go_wp2_with fail
  refine (get_any (w.heap.size + 1) (w.heap.size + 2) (by omega) A n c l _ 16 _ (R.more hB.size) (by omega) (by omega) hs).mono ?_
  rintro e w6 ⟨rfl, hs, hx⟩
  replace R := R.below (hx.below hB.size (by omega) (by omega))
  replace hq0 := hq0.ex2 hx (by omega) (by omega)
  replace h7 := h7.ex2 hx (by omega) (by omega)
  replace hB := BelowE hB hx hB.size (by omega) (by omega)
  clear hx
  rw [H4.out] at hs ⊢
  generalize hAa3 : (r3 l).1 = a3 at *
  have HAa3 := Lib.hid hAa3
  clear hAa3
  generalize hAa4 : (r4 l).1 = a4 at *
  have HAa4 := Lib.hid hAa4
  clear hAa4
  replace h7 : Blk w6 (w.heap.size + 3) 44 #[.slice none 0 0, .int .i64 (a1 : Int), .int .i64 (a2 : Int), .int .i64 0, .int .i64 0] := h7
  have z0 : w6.cell? ⟨w.heap.size + 3, 0, none⟩ = some (.slice none 0 0) := (h7.cell 0).trans rfl
  have z1 : w6.cell? ⟨w.heap.size + 3, 1, none⟩ = some (.int .i64 (a1 : Int)) := (h7.cell 1).trans rfl
  have z2 : w6.cell? ⟨w.heap.size + 3, 2, none⟩ = some (.int .i64 (a2 : Int)) := (h7.cell 2).trans rfl
  have z3 : w6.cell? ⟨w.heap.size + 3, 3, none⟩ = some (.int .i64 0) := (h7.cell 3).trans rfl
  have z4 : w6.cell? ⟨w.heap.size + 3, 4, none⟩ = some (.int .i64 0) := (h7.cell 4).trans rfl
  have zf0 := h7.frozen 0
  have zf1 := h7.frozen 1
  have zf2 := h7.frozen 2
  have zf3 := h7.frozen 3
  have zf4 := h7.frozen 4
  have g7 := (h7.set_ 3 (.int .i64 (a3 : Int)))
  have y2 : (w6.setCell ⟨w.heap.size + 3, 3, none⟩ (.int .i64 (a3 : Int))).cell? ⟨w.heap.size + 3, 4, none⟩ = some (.int .i64 0) := (g7.cell 4).trans rfl
  have yf2 := g7.frozen 4
  go_wp2_with fail
  replace h7 := g7.set_ 4 (.int .i64 (a4 : Int))
  replace hs := (hs.far (g := w.heap.size + 3) 3 (.int .i64 (a3 : Int)) (by omega) (by omega)).far (g := w.heap.size + 3) 4 (.int .i64 (a4 : Int)) (by omega) (by omega)
  replace hq0 := (hq0.far (p := ⟨w.heap.size + 3, 3, none⟩) (show w.heap.size ≠ w.heap.size + 3 by omega) (.int .i64 (a3 : Int))).far (p := ⟨w.heap.size + 3, 4, none⟩) (show w.heap.size ≠ w.heap.size + 3 by omega) (.int .i64 (a4 : Int))
  replace R := (R.setCell (p := ⟨w.heap.size + 3, 3, none⟩) (show w.heap.size ≤ w.heap.size + 3 by omega) (.int .i64 (a3 : Int))).setCell (p := ⟨w.heap.size + 3, 4, none⟩) (show w.heap.size ≤ w.heap.size + 3 by omega) (.int .i64 (a4 : Int))
  replace hB := (hB.setCell (p := ⟨w.heap.size + 3, 3, none⟩) (show w.heap.size ≤ w.heap.size + 3 by omega) (.int .i64 (a3 : Int))).setCell (p := ⟨w.heap.size + 3, 4, none⟩) (show w.heap.size ≤ w.heap.size + 3 by omega) (.int .i64 (a4 : Int))
  clear g7 y2 yf2 z0 z1 z2 z3 z4 zf0 zf1 zf2 zf3 zf4
  generalize (w6.setCell ⟨w.heap.size + 3, 3, none⟩ (.int .i64 (a3 : Int))).setCell ⟨w.heap.size + 3, 4, none⟩ (.int .i64 (a4 : Int)) = w7 at *
  refine (get_any (w.heap.size + 1) (w.heap.size + 2) (by omega) A n c l _ 2000 _ (R.more hB.size) (by omega) (by omega) hs).mono ?_
  rintro e w8 ⟨rfl, hs, hx⟩
  replace R := R.below (hx.below hB.size (by omega) (by omega))
  replace hq0 := hq0.ex2 hx (by omega) (by omega)
  replace h7 := h7.ex2 hx (by omega) (by omega)
  replace hB := BelowE hB hx hB.size (by omega) (by omega)
  clear hx
  rw [H5.out] at hs ⊢
  replace h7 : Blk w8 (w.heap.size + 3) 44 #[.slice none 0 0, .int .i64 (a1 : Int), .int .i64 (a2 : Int), .int .i64 (a3 : Int), .int .i64 (a4 : Int)] := h7
  generalize hc5 : (r5 l).1 = a5 at *
  have HC5 := Lib.hid hc5
  have hl7 := h7.lt
  clear hc5
  go_wp2_with fail
  go_loopw [33] (fun i wr => ∃ (j : Nat) (A1 : Option Addr) (c1 : Nat), j ≤ a5 ∧ i = .int .i64 (j : Int) ∧ Rdr wr (w.heap.size + 1) (w.heap.size + 2) A n c (gsJ l (r5 l).2 65535 j).2 ∧ Blk wr (w.heap.size + 3) 44 #[.slice A1 j c1, .int .i64 (a1 : Int), .int .i64 (a2 : Int), .int .i64 (a3 : Int), .int .i64 (a4 : Int)] ∧
      wr.ownsRow (w.heap.size + 4) 3 1 (.slice A1 j c1) j ((toI (gsJ l (r5 l).2 65535 j).1).map vI) ∧ Blk wr w.heap.size 44 #[.slice none 0 0, .int .i64 0, .int .i64 0, .int .i64 0, .int .i64 0] ∧ RdB wr w.heap.size A n l ∧ Below w.heap.size w wr) (fun i _ => a5 - (intOf i).toNat)
  case atStart => exact ⟨0, none, 0, by omega, rfl, by rw [HJ0.out]; exact hs, h7, by rw [HJ0.out]; exact World.ownsRow_nil _ _ _ _, hq0, R, hB⟩
  case round =>
    clear hs h7 hq0 R hB hl7
    obtain ⟨j, A1, c1, hj, rfl, hs, h7, hown, hq0, R, hB⟩ := hrel
    by_cases hlt : j < a5
    · have hgb := HGB.out (gsJ l (r5 l).2 65535 j).2
      have HN := Lib.hid (HJS.out j)
      go_wp2_with fail
      refine nop_wp (any_start (by kernel_rfl) calm_nop (fun hQ => ?_))
      replace hs : Rdr wr.drew (w.heap.size + 1) (w.heap.size + 2) A n c (gsJ l (r5 l).2 65535 j).2 := hs.keep rfl rfl
      replace h7 := h7.drew
      replace hown := own_call hown ((Ext.refl wr).draw)
      replace hq0 := hq0.drew
      replace R := Reads.drew R
      replace hB := hB.drew
      generalize wr.drew = x at *
      generalize gsJ l (r5 l).2 65535 j = gj at *
      have hc7 : x.cell? ⟨w.heap.size + 3, 0, none⟩ = some (.slice A1 j c1) := (h7.cell 0).trans rfl
      refine any_take (i := 0) (oi := ?oia0x1) (v := ?va0x1) ?hia0x1 (by kernel_rfl) (by kernel_rfl) (by kernel_rfl) hQ ?hwa0x1 ?hya0x1 ?resta0x1
      case hia0x1 => simp only [List.getElem?_toArray, List.getElem?_cons_zero]; rfl
      case hwa0x1 => rfl
      case hya0x1 => intro W hW; go_simp; with_reducible rfl
      simp only [Act.put, List.setIfInBounds_toArray, List.set_cons_zero, List.set_cons_succ]
      refine any_take (i := 2) (oi := ?oia2x2) (v := ?va2x2) ?hia2x2 (by kernel_rfl) (by kernel_rfl) (by kernel_rfl) hQ ?hwa2x2 ?hya2x2 ?resta2x2
      case hia2x2 => simp only [List.getElem?_toArray, List.getElem?_cons_zero, List.getElem?_cons_succ]; rfl
      case hwa2x2 => rfl
      case hya2x2 => intro W hW; go_simp; with_reducible rfl
      simp only [Act.put, List.setIfInBounds_toArray, List.set_cons_zero, List.set_cons_succ]
      refine any_two (i := 1) (j := 3) (oi := ?oia1x3) (oj := ?oja1x3) (by kernel_rfl) ?hia1x3 ?hja1x3 ?hwa1x3 ?hva1x3 (fun K hK => ?_) (fun K hK => ?_)
      case hia1x3 => simp only [List.getElem?_toArray, List.getElem?_cons_zero, List.getElem?_cons_succ]; rfl
      case hja1x3 => simp only [List.getElem?_toArray, List.getElem?_cons_zero, List.getElem?_cons_succ]; rfl
      case hwa1x3 => rfl
      case hva1x3 => rfl
      · go_simp
        refine hK _ _ ?_
        try simp only [Act.put, List.setIfInBounds_toArray, List.set_cons_zero, List.set_cons_succ]
        refine any_one (i := 3) (oi := ?oia3x4) (by kernel_rfl) ?hia3x4 ?hwa3x4 (fun K hK => ?_)
        case hia3x4 => simp only [List.getElem?_toArray, List.getElem?_cons_zero, List.getElem?_cons_succ]; rfl
        case hwa3x4 => rfl
        go_simp
        refine (get_any (w.heap.size + 1) (w.heap.size + 2) (by omega) A n c l _ 65535 _ (R.more hB.size) (by omega) (by omega) hs).mono ?_; rintro e w2 ⟨rfl, hs, hx⟩; have R := R.below (hx.below hB.size (by omega) (by omega)); have hq0 := hq0.ex2 hx (by omega) (by omega); have h7 := h7.ex2 hx (by omega) (by omega); have hown := own_ex2 hown hx (by omega) (by omega); have hB := BelowE hB hx hB.size (by omega) (by omega); have hc7 : w2.cell? ⟨w.heap.size + 3, 0, none⟩ = some (.slice A1 j c1) := (h7.cell 0).trans rfl; clear hx; refine hK _ _ ?_
        try simp only [Act.put, List.setIfInBounds_toArray, List.set_cons_zero, List.set_cons_succ]
        refine any_one (i := 4) (oi := ?oia4x5) (by kernel_rfl) ?hia4x5 ?hwa4x5 (fun K hK => ?_)
        case hia4x5 => simp only [List.getElem?_toArray, List.getElem?_cons_zero, List.getElem?_cons_succ]; rfl
        case hwa4x5 => rfl
        go_simp
        have b := Ext.al w2 (.cells #[.int .i64 ((gs l gj.2 65535).1 : Nat)] 3); have R := R.below (Below.mono b hB.size); have hq0 := hq0.below b hq0.lt; have h7 := h7.below b h7.lt; have hown := own_call hown b; have hs := hs.below b hs.lt.1 hs.lt.2; have hB := hB.trans (Below.mono b hB.size); have RO := (reads_row w2 [.int .i64 ((gs l gj.2 65535).1 : Nat)] 3).more (Nat.le_of_eq (alloc_size w2 (.cells #[.int .i64 ((gs l gj.2 65535).1 : Nat)] 3)).symm); have hc7 : (w2.alloc (.cells #[.int .i64 ((gs l gj.2 65535).1 : Nat)] 3)).cell? ⟨w.heap.size + 3, 0, none⟩ = some (.slice A1 j c1) := (h7.cell 0).trans rfl; clear b; refine hK _ _ ?_
        try simp only [Act.put, List.setIfInBounds_toArray, List.set_cons_zero, List.set_cons_succ]
        refine any_one (i := 5) (oi := ?oia5x6) (by kernel_rfl) ?hia5x6 ?hwa5x6 (fun K hK => ?_)
        case hia5x6 => simp only [List.getElem?_toArray, List.getElem?_cons_zero, List.getElem?_cons_succ]; rfl
        case hwa5x6 => rfl
        (refine wp_app (.tmp 36) (.tmp 39) _ (by rfl) slI (w.heap.size + 4) _ j _ (by rfl) hown _ (some ⟨w2.heap.size, 0, none⟩) 1 1 [.int .i64 ((gs l gj.2 65535).1 : Nat)] (by rfl) RO (by simp [Value.oneCell']) (by omega) (by have := h7.lt; omega) ?_; intro A6 c6 w6 o6 hg6 b6 hc6; have R := R.below (b6.mono (by omega)); have hq0 := hq0.below b6 (by omega); have h7 := h7.below b6 (by omega); have hs := hs.below b6 (by omega) (by omega); have hB := hB.trans (b6.mono (by omega)); have hc7 : w6.cell? ⟨w.heap.size + 3, 0, none⟩ = some (.slice A1 j c1) := (h7.cell 0).trans rfl; have hcf := h7.frozen 0; refine hK _ _ ?_)
        try simp only [Act.put, List.setIfInBounds_toArray, List.set_cons_zero, List.set_cons_succ]
        refine any_take (i := 6) (oi := ?oia6x7) (v := ?va6x7) ?hia6x7 (by kernel_rfl) (by kernel_rfl) (by kernel_rfl) hQ ?hwa6x7 ?hya6x7 ?resta6x7
        case hia6x7 => simp only [List.getElem?_toArray, List.getElem?_cons_zero, List.getElem?_cons_succ]; rfl
        case hwa6x7 => rfl
        case hya6x7 => intro W hW; go_simp; with_reducible rfl
        simp only [Act.put, List.setIfInBounds_toArray, List.set_cons_zero, List.set_cons_succ]
        refine any_one (i := 7) (oi := ?oia7x8) (by kernel_rfl) ?hia7x8 ?hwa7x8 (fun K hK => ?_)
        case hia7x8 => simp only [List.getElem?_toArray, List.getElem?_cons_zero, List.getElem?_cons_succ]; rfl
        case hwa7x8 => rfl
        go_simp
        refine hK _ _ ?_
        try simp only [Act.put, List.setIfInBounds_toArray, List.set_cons_zero, List.set_cons_succ]
        refine wpAnyH_done (by kernel_rfl) ?_ _
        simp only [NoP]
        go_wp2_with fail
        go_roundw
        case rel => exact ⟨j + 1, A6, c6, by omega, by go_num, by rw [HN.out]; exact hs.far 0 _ (by omega) (by omega), h7.set_ 0 (.slice A6 (j + 1) c6), by rw [HN.out]; exact own_far (by rw [toI, List.map_append, List.map_append]; exact o6) (by omega) _, hq0.far (p := ⟨w.heap.size + 3, 0, none⟩) (show w.heap.size ≠ w.heap.size + 3 by omega) _, R.setCell (p := ⟨w.heap.size + 3, 0, none⟩) (show w.heap.size ≤ w.heap.size + 3 by omega) _, hB.setCell (p := ⟨w.heap.size + 3, 0, none⟩) (show w.heap.size ≤ w.heap.size + 3 by omega) _⟩
        case measure => simp [intOf]; omega
      · go_simp
        refine (get_any (w.heap.size + 1) (w.heap.size + 2) (by omega) A n c l _ 65535 _ (R.more hB.size) (by omega) (by omega) hs).mono ?_; rintro e w2 ⟨rfl, hs, hx⟩; have R := R.below (hx.below hB.size (by omega) (by omega)); have hq0 := hq0.ex2 hx (by omega) (by omega); have h7 := h7.ex2 hx (by omega) (by omega); have hown := own_ex2 hown hx (by omega) (by omega); have hB := BelowE hB hx hB.size (by omega) (by omega); have hc7 : w2.cell? ⟨w.heap.size + 3, 0, none⟩ = some (.slice A1 j c1) := (h7.cell 0).trans rfl; clear hx; refine hK _ _ ?_
        try simp only [Act.put, List.setIfInBounds_toArray, List.set_cons_zero, List.set_cons_succ]
        refine any_two (i := 1) (j := 4) (oi := ?oia1x9) (oj := ?oja1x9) (by kernel_rfl) ?hia1x9 ?hja1x9 ?hwa1x9 ?hva1x9 (fun K hK => ?_) (fun K hK => ?_)
        case hia1x9 => simp only [List.getElem?_toArray, List.getElem?_cons_zero, List.getElem?_cons_succ]; rfl
        case hja1x9 => simp only [List.getElem?_toArray, List.getElem?_cons_zero, List.getElem?_cons_succ]; rfl
        case hwa1x9 => rfl
        case hva1x9 => rfl
        · go_simp
          refine hK _ _ ?_
          try simp only [Act.put, List.setIfInBounds_toArray, List.set_cons_zero, List.set_cons_succ]
          refine any_one (i := 4) (oi := ?oia4x10) (by kernel_rfl) ?hia4x10 ?hwa4x10 (fun K hK => ?_)
          case hia4x10 => simp only [List.getElem?_toArray, List.getElem?_cons_zero, List.getElem?_cons_succ]; rfl
          case hwa4x10 => rfl
          go_simp
          have b := Ext.al w2 (.cells #[.int .i64 ((gs l gj.2 65535).1 : Nat)] 3); have R := R.below (Below.mono b hB.size); have hq0 := hq0.below b hq0.lt; have h7 := h7.below b h7.lt; have hown := own_call hown b; have hs := hs.below b hs.lt.1 hs.lt.2; have hB := hB.trans (Below.mono b hB.size); have RO := (reads_row w2 [.int .i64 ((gs l gj.2 65535).1 : Nat)] 3).more (Nat.le_of_eq (alloc_size w2 (.cells #[.int .i64 ((gs l gj.2 65535).1 : Nat)] 3)).symm); have hc7 : (w2.alloc (.cells #[.int .i64 ((gs l gj.2 65535).1 : Nat)] 3)).cell? ⟨w.heap.size + 3, 0, none⟩ = some (.slice A1 j c1) := (h7.cell 0).trans rfl; clear b; refine hK _ _ ?_
          try simp only [Act.put, List.setIfInBounds_toArray, List.set_cons_zero, List.set_cons_succ]
          refine any_one (i := 5) (oi := ?oia5x11) (by kernel_rfl) ?hia5x11 ?hwa5x11 (fun K hK => ?_)
          case hia5x11 => simp only [List.getElem?_toArray, List.getElem?_cons_zero, List.getElem?_cons_succ]; rfl
          case hwa5x11 => rfl
          (refine wp_app (.tmp 36) (.tmp 39) _ (by rfl) slI (w.heap.size + 4) _ j _ (by rfl) hown _ (some ⟨w2.heap.size, 0, none⟩) 1 1 [.int .i64 ((gs l gj.2 65535).1 : Nat)] (by rfl) RO (by simp [Value.oneCell']) (by omega) (by have := h7.lt; omega) ?_; intro A6 c6 w6 o6 hg6 b6 hc6; have R := R.below (b6.mono (by omega)); have hq0 := hq0.below b6 (by omega); have h7 := h7.below b6 (by omega); have hs := hs.below b6 (by omega) (by omega); have hB := hB.trans (b6.mono (by omega)); have hc7 : w6.cell? ⟨w.heap.size + 3, 0, none⟩ = some (.slice A1 j c1) := (h7.cell 0).trans rfl; have hcf := h7.frozen 0; refine hK _ _ ?_)
          try simp only [Act.put, List.setIfInBounds_toArray, List.set_cons_zero, List.set_cons_succ]
          refine any_take (i := 6) (oi := ?oia6x12) (v := ?va6x12) ?hia6x12 (by kernel_rfl) (by kernel_rfl) (by kernel_rfl) hQ ?hwa6x12 ?hya6x12 ?resta6x12
          case hia6x12 => simp only [List.getElem?_toArray, List.getElem?_cons_zero, List.getElem?_cons_succ]; rfl
          case hwa6x12 => rfl
          case hya6x12 => intro W hW; go_simp; with_reducible rfl
          simp only [Act.put, List.setIfInBounds_toArray, List.set_cons_zero, List.set_cons_succ]
          refine any_one (i := 7) (oi := ?oia7x13) (by kernel_rfl) ?hia7x13 ?hwa7x13 (fun K hK => ?_)
          case hia7x13 => simp only [List.getElem?_toArray, List.getElem?_cons_zero, List.getElem?_cons_succ]; rfl
          case hwa7x13 => rfl
          go_simp
          refine hK _ _ ?_
          try simp only [Act.put, List.setIfInBounds_toArray, List.set_cons_zero, List.set_cons_succ]
          refine wpAnyH_done (by kernel_rfl) ?_ _
          simp only [NoP]
          go_wp2_with fail
          go_roundw
          case rel => exact ⟨j + 1, A6, c6, by omega, by go_num, by rw [HN.out]; exact hs.far 0 _ (by omega) (by omega), h7.set_ 0 (.slice A6 (j + 1) c6), by rw [HN.out]; exact own_far (by rw [toI, List.map_append, List.map_append]; exact o6) (by omega) _, hq0.far (p := ⟨w.heap.size + 3, 0, none⟩) (show w.heap.size ≠ w.heap.size + 3 by omega) _, R.setCell (p := ⟨w.heap.size + 3, 0, none⟩) (show w.heap.size ≤ w.heap.size + 3 by omega) _, hB.setCell (p := ⟨w.heap.size + 3, 0, none⟩) (show w.heap.size ≤ w.heap.size + 3 by omega) _⟩
          case measure => simp [intOf]; omega
        · go_simp
          have b := Ext.al w2 (.cells #[.int .i64 ((gs l gj.2 65535).1 : Nat)] 3); have R := R.below (Below.mono b hB.size); have hq0 := hq0.below b hq0.lt; have h7 := h7.below b h7.lt; have hown := own_call hown b; have hs := hs.below b hs.lt.1 hs.lt.2; have hB := hB.trans (Below.mono b hB.size); have RO := (reads_row w2 [.int .i64 ((gs l gj.2 65535).1 : Nat)] 3).more (Nat.le_of_eq (alloc_size w2 (.cells #[.int .i64 ((gs l gj.2 65535).1 : Nat)] 3)).symm); have hc7 : (w2.alloc (.cells #[.int .i64 ((gs l gj.2 65535).1 : Nat)] 3)).cell? ⟨w.heap.size + 3, 0, none⟩ = some (.slice A1 j c1) := (h7.cell 0).trans rfl; clear b; refine hK _ _ ?_
          try simp only [Act.put, List.setIfInBounds_toArray, List.set_cons_zero, List.set_cons_succ]
          refine any_one (i := 1) (oi := ?oia1x14) (by kernel_rfl) ?hia1x14 ?hwa1x14 (fun K hK => ?_)
          case hia1x14 => simp only [List.getElem?_toArray, List.getElem?_cons_zero, List.getElem?_cons_succ]; rfl
          case hwa1x14 => rfl
          go_simp
          refine hK _ _ ?_
          try simp only [Act.put, List.setIfInBounds_toArray, List.set_cons_zero, List.set_cons_succ]
          refine any_one (i := 5) (oi := ?oia5x15) (by kernel_rfl) ?hia5x15 ?hwa5x15 (fun K hK => ?_)
          case hia5x15 => simp only [List.getElem?_toArray, List.getElem?_cons_zero, List.getElem?_cons_succ]; rfl
          case hwa5x15 => rfl
          (refine wp_app (.tmp 36) (.tmp 39) _ (by rfl) slI (w.heap.size + 4) _ j _ (by rfl) hown _ (some ⟨w2.heap.size, 0, none⟩) 1 1 [.int .i64 ((gs l gj.2 65535).1 : Nat)] (by rfl) RO (by simp [Value.oneCell']) (by omega) (by have := h7.lt; omega) ?_; intro A6 c6 w6 o6 hg6 b6 hc6; have R := R.below (b6.mono (by omega)); have hq0 := hq0.below b6 (by omega); have h7 := h7.below b6 (by omega); have hs := hs.below b6 (by omega) (by omega); have hB := hB.trans (b6.mono (by omega)); have hc7 : w6.cell? ⟨w.heap.size + 3, 0, none⟩ = some (.slice A1 j c1) := (h7.cell 0).trans rfl; have hcf := h7.frozen 0; refine hK _ _ ?_)
          try simp only [Act.put, List.setIfInBounds_toArray, List.set_cons_zero, List.set_cons_succ]
          refine any_take (i := 6) (oi := ?oia6x16) (v := ?va6x16) ?hia6x16 (by kernel_rfl) (by kernel_rfl) (by kernel_rfl) hQ ?hwa6x16 ?hya6x16 ?resta6x16
          case hia6x16 => simp only [List.getElem?_toArray, List.getElem?_cons_zero, List.getElem?_cons_succ]; rfl
          case hwa6x16 => rfl
          case hya6x16 => intro W hW; go_simp; with_reducible rfl
          simp only [Act.put, List.setIfInBounds_toArray, List.set_cons_zero, List.set_cons_succ]
          refine any_one (i := 7) (oi := ?oia7x17) (by kernel_rfl) ?hia7x17 ?hwa7x17 (fun K hK => ?_)
          case hia7x17 => simp only [List.getElem?_toArray, List.getElem?_cons_zero, List.getElem?_cons_succ]; rfl
          case hwa7x17 => rfl
          go_simp
          refine hK _ _ ?_
          try simp only [Act.put, List.setIfInBounds_toArray, List.set_cons_zero, List.set_cons_succ]
          refine wpAnyH_done (by kernel_rfl) ?_ _
          simp only [NoP]
          go_wp2_with fail
          go_roundw
          case rel => exact ⟨j + 1, A6, c6, by omega, by go_num, by rw [HN.out]; exact hs.far 0 _ (by omega) (by omega), h7.set_ 0 (.slice A6 (j + 1) c6), by rw [HN.out]; exact own_far (by rw [toI, List.map_append, List.map_append]; exact o6) (by omega) _, hq0.far (p := ⟨w.heap.size + 3, 0, none⟩) (show w.heap.size ≠ w.heap.size + 3 by omega) _, R.setCell (p := ⟨w.heap.size + 3, 0, none⟩) (show w.heap.size ≤ w.heap.size + 3 by omega) _, hB.setCell (p := ⟨w.heap.size + 3, 0, none⟩) (show w.heap.size ≤ w.heap.size + 3 by omega) _⟩
          case measure => simp [intOf]; omega
    · have hja : j = a5 := by omega
      subst hja
      have HG := Lib.hid (show gsJ l (r5 l).2 65535 j = r6 l from H6.out)
      rw [HG.out] at hs hown
      have hl6 : (toI (r6 l).1).length = j := by rw [toI, List.length_map, ← HG.out]; exact HJL.out j
      have HL6 := Lib.hid hl6
      have hown2 : wr.ownsRow w.heap.size 3 1 (.slice A1 j c1) j ((toI (r6 l).1).map vI) := own_low hown (by omega)
      have RI : RdI wr wr.heap.size A1 j (toI (r6 l).1) := own_reads hown
      have HCK := Lib.hid (fun W (h : RdI W W.heap.size A1 j (toI (r6 l).1)) => check11_any A1 j c1 (toI (r6 l).1) (a1 : Int) (a2 : Int) (a3 : Int) (a4 : Int) W h (by omega))
      clear HJ0 HJS HJB HJL HGB
      generalize hps : toI (r6 l).1 = ps at *
      have HPS := Lib.hid hps
      clear hps
      cases h6 : (r6 l).2 with
      | none =>
        have HE := Lib.hid (show dcE l = 12 from by rw [HD.out, hb1.out, h6]; rfl)
        rw [h6] at hs
        obtain ⟨e0, he0, hk4, hk5⟩ := hs
        have c5 := (hk5.cell 0).trans (show _ = some (.int .i64 e0) from rfl)
        have de : (e0 != 0) = true := by rw [bne_iff_ne]; exact he0
        have z0 : wr.cell? ⟨w.heap.size, 0, none⟩ = some (.slice none 0 0) := (hq0.cell 0).trans rfl
        have z1 : wr.cell? ⟨w.heap.size, 1, none⟩ = some (.int .i64 0) := (hq0.cell 1).trans rfl
        have z2 : wr.cell? ⟨w.heap.size, 2, none⟩ = some (.int .i64 0) := (hq0.cell 2).trans rfl
        have z3 : wr.cell? ⟨w.heap.size, 3, none⟩ = some (.int .i64 0) := (hq0.cell 3).trans rfl
        have z4 : wr.cell? ⟨w.heap.size, 4, none⟩ = some (.int .i64 0) := (hq0.cell 4).trans rfl
        have zf0 := hq0.frozen 0
        have zf1 := hq0.frozen 1
        have zf2 := hq0.frozen 2
        have zf3 := hq0.frozen 3
        have zf4 := hq0.frozen 4

        clear h6
        go_wp2_with fail
        refine ret_c1 rfl scrT rfl (by repeat (first | with_reducible exact hq0 | with_reducible (apply Blk.set_) | with_reducible (apply Blk.far; case hp => (simp <;> omega)) | with_reducible (apply Blk.alloc) | with_reducible (apply Blk.drew))) (by rfl) ?_
        unfold DcPost
        exact ⟨none, 0, by rw [HE.out]; rfl, by rw [HE.out]; exact World.ownsRow_nil _ _ _ _, (by have hs_ := hB.size; repeat (first | with_reducible exact hB | with_reducible (refine Below.setCell ?_ (by simp <;> omega) _) | with_reducible (refine Below.alloc ?_ (by simp <;> omega) _) | with_reducible (refine Below.drew ?_)))⟩
      | some kk =>
        rw [h6] at hs
        obtain ⟨hk4, hk5, hkn⟩ := hs
        have c5 := (hk5.cell 0).trans (show _ = some (.int .i64 0) from rfl)
        have c4 := (hk4.cell 1).trans (show _ = some (.int .i64 (kk : Int)) from rfl)
        have z0 : wr.cell? ⟨w.heap.size, 0, none⟩ = some (.slice none 0 0) := (hq0.cell 0).trans rfl
        have z1 : wr.cell? ⟨w.heap.size, 1, none⟩ = some (.int .i64 0) := (hq0.cell 1).trans rfl
        have z2 : wr.cell? ⟨w.heap.size, 2, none⟩ = some (.int .i64 0) := (hq0.cell 2).trans rfl
        have z3 : wr.cell? ⟨w.heap.size, 3, none⟩ = some (.int .i64 0) := (hq0.cell 3).trans rfl
        have z4 : wr.cell? ⟨w.heap.size, 4, none⟩ = some (.int .i64 0) := (hq0.cell 4).trans rfl
        have zf0 := hq0.frozen 0
        have zf1 := hq0.frozen 1
        have zf2 := hq0.frozen 2
        have zf3 := hq0.frozen 3
        have zf4 := hq0.frozen 4

        by_cases hkk : kk = n
        · have dk : ((kk : Int) != (n : Int)) = false := by rw [hkk]; simp
          have HB := Lib.hid (show dcB l = scB (a1 : Int) (a2 : Int) (a3 : Int) (a4 : Int) ps from by rw [hb1.out, h6, hkk, HL.out]; simp)
          have HK := Lib.hid hkk
          clear hkk h6
          have s0 : wr.cell? ⟨w.heap.size + 3, 0, none⟩ = some (.slice A1 j c1) := (h7.cell 0).trans rfl
          have s1 : wr.cell? ⟨w.heap.size + 3, 1, none⟩ = some (.int .i64 (a1 : Int)) := (h7.cell 1).trans rfl
          have s2 : wr.cell? ⟨w.heap.size + 3, 2, none⟩ = some (.int .i64 (a2 : Int)) := (h7.cell 2).trans rfl
          have s3 : wr.cell? ⟨w.heap.size + 3, 3, none⟩ = some (.int .i64 (a3 : Int)) := (h7.cell 3).trans rfl
          have s4 : wr.cell? ⟨w.heap.size + 3, 4, none⟩ = some (.int .i64 (a4 : Int)) := (h7.cell 4).trans rfl

          cases hsc : scB (a1 : Int) (a2 : Int) (a3 : Int) (a4 : Int) ps
          · have HE := Lib.hid (show dcE l = 12 from by rw [HD.out, HB.out, hsc]; rfl)
            have HV := Lib.hid (show scE (a1 : Int) (a2 : Int) (a3 : Int) (a4 : Int) ps = 8 from by simp [scE, hsc])
            clear hsc
            go_wp2_with fail
            refine (HCK.out _ RI).mono ?_
            rintro e w9 ⟨rfl, b⟩
            rw [HV.out]
            have hq9 := hq0.below b hq0.lt
            have hB9 := hB.trans (b.mono hB.size)
            have t0 : w9.cell? ⟨w.heap.size, 0, none⟩ = some (.slice none 0 0) := (hq9.cell 0).trans rfl
            have t1 : w9.cell? ⟨w.heap.size, 1, none⟩ = some (.int .i64 0) := (hq9.cell 1).trans rfl
            have t2 : w9.cell? ⟨w.heap.size, 2, none⟩ = some (.int .i64 0) := (hq9.cell 2).trans rfl
            have t3 : w9.cell? ⟨w.heap.size, 3, none⟩ = some (.int .i64 0) := (hq9.cell 3).trans rfl
            have t4 : w9.cell? ⟨w.heap.size, 4, none⟩ = some (.int .i64 0) := (hq9.cell 4).trans rfl
            have tf0 := hq9.frozen 0
            have tf1 := hq9.frozen 1
            have tf2 := hq9.frozen 2
            have tf3 := hq9.frozen 3
            have tf4 := hq9.frozen 4

            go_wp2_with fail
            refine ret_c1 rfl scrT rfl (by repeat (first | with_reducible exact hq9 | with_reducible (apply Blk.set_) | with_reducible (apply Blk.far; case hp => (simp <;> omega)) | with_reducible (apply Blk.alloc) | with_reducible (apply Blk.drew))) (by rfl) ?_
            unfold DcPost
            exact ⟨none, 0, by rw [HE.out]; rfl, by rw [HE.out]; exact World.ownsRow_nil _ _ _ _, (by have hs_ := hB9.size; repeat (first | with_reducible exact hB9 | with_reducible (refine Below.setCell ?_ (by simp <;> omega) _) | with_reducible (refine Below.alloc ?_ (by simp <;> omega) _) | with_reducible (refine Below.drew ?_)))⟩
          · have HE := Lib.hid (show dcE l = 0 from by rw [HD.out, HB.out, hsc]; rfl)
            have F0 := Lib.hid (show (if dcE l = 0 then toI (r6 l).1 else []) = ps from by rw [HE.out, if_pos rfl, HPS.out])
            have F1 := Lib.hid (show (if dcE l = 0 then ((r1 l).1 : Int) else 0) = (a1 : Int) from by rw [HE.out, if_pos rfl, HAa1.out])
            have F2 := Lib.hid (show (if dcE l = 0 then ((r2 l).1 : Int) else 0) = (a2 : Int) from by rw [HE.out, if_pos rfl, HAa2.out])
            have F3 := Lib.hid (show (if dcE l = 0 then ((r3 l).1 : Int) else 0) = (a3 : Int) from by rw [HE.out, if_pos rfl, HAa3.out])
            have F4 := Lib.hid (show (if dcE l = 0 then ((r4 l).1 : Int) else 0) = (a4 : Int) from by rw [HE.out, if_pos rfl, HAa4.out])
            have HV := Lib.hid (show scE (a1 : Int) (a2 : Int) (a3 : Int) (a4 : Int) ps = 0 from by simp [scE, hsc])
            clear hsc
            go_wp2_with fail
            refine (HCK.out _ RI).mono ?_
            rintro e w9 ⟨rfl, b⟩
            rw [HV.out]
            have hq9 := hq0.below b hq0.lt
            have h79 := h7.below b h7.lt
            have hB9 := hB.trans (b.mono hB.size)
            have hown9 := own_call hown b
            have t0 : w9.cell? ⟨w.heap.size, 0, none⟩ = some (.slice none 0 0) := (hq9.cell 0).trans rfl
            have t1 : w9.cell? ⟨w.heap.size, 1, none⟩ = some (.int .i64 0) := (hq9.cell 1).trans rfl
            have t2 : w9.cell? ⟨w.heap.size, 2, none⟩ = some (.int .i64 0) := (hq9.cell 2).trans rfl
            have t3 : w9.cell? ⟨w.heap.size, 3, none⟩ = some (.int .i64 0) := (hq9.cell 3).trans rfl
            have t4 : w9.cell? ⟨w.heap.size, 4, none⟩ = some (.int .i64 0) := (hq9.cell 4).trans rfl
            have tf0 := hq9.frozen 0
            have tf1 := hq9.frozen 1
            have tf2 := hq9.frozen 2
            have tf3 := hq9.frozen 3
            have tf4 := hq9.frozen 4

            have u0 : w9.cell? ⟨w.heap.size + 3, 0, none⟩ = some (.slice A1 j c1) := (h79.cell 0).trans rfl
            have u1 : w9.cell? ⟨w.heap.size + 3, 1, none⟩ = some (.int .i64 (a1 : Int)) := (h79.cell 1).trans rfl
            have u2 : w9.cell? ⟨w.heap.size + 3, 2, none⟩ = some (.int .i64 (a2 : Int)) := (h79.cell 2).trans rfl
            have u3 : w9.cell? ⟨w.heap.size + 3, 3, none⟩ = some (.int .i64 (a3 : Int)) := (h79.cell 3).trans rfl
            have u4 : w9.cell? ⟨w.heap.size + 3, 4, none⟩ = some (.int .i64 (a4 : Int)) := (h79.cell 4).trans rfl

            go_wp2_with fail
            refine ret_c1 rfl scrT rfl (by repeat (first | with_reducible exact hq9 | with_reducible (apply Blk.set_) | with_reducible (apply Blk.far; case hp => (simp <;> omega)) | with_reducible (apply Blk.alloc) | with_reducible (apply Blk.drew))) (by rfl) ?_
            unfold DcPost
            exact ⟨A1, c1, by rw [F0.out, F1.out, F2.out, F3.out, F4.out, HE.out, HL6.out]; rfl, by rw [F0.out, HL6.out]; exact own_low (own_far (own_far (own_far (own_far (own_far hown9 (by omega) _) (by omega) _) (by omega) _) (by omega) _) (by omega) _) (by omega), (by have hs_ := hB9.size; repeat (first | with_reducible exact hB9 | with_reducible (refine Below.setCell ?_ (by simp <;> omega) _) | with_reducible (refine Below.alloc ?_ (by simp <;> omega) _) | with_reducible (refine Below.drew ?_)))⟩
        · have dk : ((kk : Int) != (n : Int)) = true := by rw [bne_iff_ne]; omega
          have HE := Lib.hid (show dcE l = 12 from by rw [HD.out, hb1.out, h6, HL.out]; simp [hkk])
          clear h6
          go_wp2_with fail
          refine ret_c1 rfl scrT rfl (by repeat (first | with_reducible exact hq0 | with_reducible (apply Blk.set_) | with_reducible (apply Blk.far; case hp => (simp <;> omega)) | with_reducible (apply Blk.alloc) | with_reducible (apply Blk.drew))) (by rfl) ?_
          unfold DcPost
          exact ⟨none, 0, by rw [HE.out]; rfl, by rw [HE.out]; exact World.ownsRow_nil _ _ _ _, (by have hs_ := hB.size; repeat (first | with_reducible exact hB | with_reducible (refine Below.setCell ?_ (by simp <;> omega) _) | with_reducible (refine Below.alloc ?_ (by simp <;> omega) _) | with_reducible (refine Below.drew ?_)))⟩

end Go.Proofs.Ytldaijkcmnnjpaa
