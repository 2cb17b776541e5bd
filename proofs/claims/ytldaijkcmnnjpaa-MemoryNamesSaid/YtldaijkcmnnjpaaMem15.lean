/- Contracts and laws of a chapter that its statement of names leans on. Each states its conditions. -/
import Derived.Test.YtldaijkcmnnjpaaMem14
import Derived.Deep.DeepCutAuto
namespace Go.Proofs.Ytldaijkcmnnjpaa
open Go.RowKit Wire
set_option linter.unusedVariables false
set_option maxRecDepth 100000 in
set_option maxHeartbeats 8000000 in
theorem readStacks_any (A : Option Addr) (n c : Nat) (l : List UInt8) (w : World) (hr : Rb w A n l) (hn : l.length ≤ 200000) :
    Calls Try.prog 38 #[.slice A n c] w fun e w' => RsP w l e w' := by
  have hl := hr.len8
  subst hl
  have HR := Lib.hid hr
  clear hr
  have HW := Lib.hid (show nwL l = l ∧ nwE l = 0 from by constructor <;> simp [nwL, nwE, hn])
  by_cases hx : uvE l 0 16 = 0
  rotate_left
  · obtain ⟨f, hf⟩ : ∃ f, uvE l 0 16 = f := ⟨_, rfl⟩
    have HV := Lib.hid (rsb_no (l := l) (by simp [rsB, hx]))
    have hb := fun A n c => uv_bad (l := l) (a := 0) (most := 16) A n c hf (by rw [← hf]; exact hx)
    have HU0 := Lib.hid (show (∀ A n c, uvC A n c l 0 16 = cur none 0 0 0) ∧ uvN l 0 16 = 0 ∧ uvE l 0 16 = f from ⟨fun A n c => (hb A n c).2, (hb none 0 0).1, hf⟩)
    have d1 : (f != 0) = true := by rw [bne_iff_ne, ← hf]; exact hx
    clear hb hf hx
    have hB := Below.refl w.heap.size w
    go_enter Try.func38, Try.ntmps38
    go_wp2_with fail
    refine (new_any A l.length c l _ (HR.out.mv hB) (by omega)).mono ?_
    rintro e w3 ⟨A1, c1, rfl, o1, b⟩
    rw [HW.out.1, HW.out.2] at *
    replace o1 := own_low o1 (show w.heap.size ≤ _ from by have hs_ := hB.size; simp <;> omega)
    replace hB := Below.via (w := w) (by have hs_ := hB.size; repeat (first | with_reducible exact hB | with_reducible (refine Below.setCell ?_ (by simp <;> omega) _) | with_reducible (refine Below.alloc ?_ (by first | exact hs_ | (simp <;> omega)) _) | with_reducible (refine Below.drew ?_))) b
    clear b
    go_wp2_with fail
    have hcc := own_cap o1
    unfold maxLen at hcc
    refine (unvary_any A1 l.length c1 l 0 16 _ (own_rd (by repeat (first | with_reducible exact o1 | (with_reducible apply own_set_; case hne => first | skip) | with_reducible (apply own_alloc_) | with_reducible (apply own_drew_)))) (by omega) (by omega) (by omega)).mono ?_
    rintro e w4 ⟨rfl, b⟩
    rw [HU0.out.1, HU0.out.2.1, HU0.out.2.2]
    have ne_o1_hc : (Value.slice A1 l.length c1).ownBlock ≠ some w3.heap.size := own_not_ge o1 (by omega)
    have ow_hc : w.heap.size ≤ w3.heap.size := (by have := hB.size; omega)
    replace o1 := own_call (by repeat (first | with_reducible exact o1 | (with_reducible apply own_set_; case hne => first | skip) | with_reducible (apply own_alloc_) | with_reducible (apply own_drew_))) b
    have hc := Blk.via0 (g := w3.heap.size) (t := 70) b (by repeat (first | with_reducible exact Blk.newAt (by simp) _ _ | with_reducible (apply Blk.set_) | with_reducible (apply Blk.far; case hp => (simp <;> omega)) | with_reducible (apply Blk.alloc) | with_reducible (apply Blk.drew)))
    replace hc : Blk w4 w3.heap.size 70 #[.slice A1 l.length c1, .int .i64 (0)] := hc
    replace hB := Below.via (w := w) (by have hs_ := hB.size; repeat (first | with_reducible exact hB | with_reducible (refine Below.setCell ?_ (by simp <;> omega) _) | with_reducible (refine Below.alloc ?_ (by first | exact hs_ | (simp <;> omega)) _) | with_reducible (refine Below.drew ?_))) b
    clear b
    generalize w3.heap.size = pc at *
    have z1 : w4.cell? ⟨pc, 0, none⟩ = some (.slice A1 l.length c1) := (hc.cell 0).trans rfl
    have z2 := hc.frozen 0
    have z3 : ∀ ob_, (w4.alloc ob_).cell? ⟨pc, 0, none⟩ = some (.slice A1 l.length c1) := fun ob_ => ((Blk.alloc hc ob_).cell 0).trans rfl
    have z4 : ∀ ob_, (w4.alloc ob_).frozen? ⟨pc, 0, none⟩ = false := fun ob_ => (Blk.alloc hc ob_).frozen 0
    have z5 : w4.cell? ⟨pc, 1, none⟩ = some (.int .i64 (0)) := (hc.cell 1).trans rfl
    have z6 := hc.frozen 1
    have z7 : ∀ ob_, (w4.alloc ob_).cell? ⟨pc, 1, none⟩ = some (.int .i64 (0)) := fun ob_ => ((Blk.alloc hc ob_).cell 1).trans rfl
    have z8 : ∀ ob_, (w4.alloc ob_).frozen? ⟨pc, 1, none⟩ = false := fun ob_ => (Blk.alloc hc ob_).frozen 1
    have z9 := hc.lt
    go_wp2_with fail
    go_ret2
    unfold RsP
    exact ⟨none, 0, by rw [HV.out.1, HV.out.2]; rfl, by rw [HV.out.1]; exact (OwV.nil _ _ _ (Nat.zero_le _)).top, (by have hs_ := hB.size; repeat (first | with_reducible exact hB | with_reducible (refine Below.setCell ?_ (by simp <;> omega) _) | with_reducible (refine Below.alloc ?_ (by first | exact hs_ | (simp <;> omega)) _) | with_reducible (refine Below.drew ?_)))⟩
  have hz0 := uv_zero hx
  have hle := uvR_le hz0.2.1
  obtain ⟨N, hN⟩ : ∃ N, (uvR l 0).2.1 = N := ⟨_, rfl⟩
  obtain ⟨b, hb⟩ : ∃ b, (uvR l 0).2.2 = b := ⟨_, rfl⟩
  have hbl : b ≤ l.length := by have := hle.2.2.1; rw [hb] at this; simp at this; omega
  have hN16 : N ≤ 16 := by rw [← hN]; exact hz0.2.2
  have HU0 := Lib.hid (show (∀ A n c, uvC A n c l 0 16 = cur A n c (b : Int)) ∧ uvN l 0 16 = N ∧ uvE l 0 16 = 0 from ⟨fun A n c => by rw [(uv_ok A n c hx).2, hb]; simp, by rw [(uv_ok none 0 0 hx).1, hN], hx⟩)
  have HB := Lib.hid (show rsB l = ((rsR l N 0 b).1 && (decide ((rsR l N 0 b).2.2 = l.length) && stB (rsR l N 0 b).2.1)) from by rw [rsB, hN, hb, hx]; rfl)
  have HY := Lib.hid (show rsB l = true → rsL l = (rsR l N 0 b).2.1 ∧ rsE l = 0 from fun h => by have := rsb_yes h; rw [hN, hb] at this; exact this)
  have hw0 : IntKind.i64.wrap (N : Int) = (N : Int) := by rw [IntKind.wrap_i64]; omega
  clear hz0 hle hN hb hx
  have hB := Below.refl w.heap.size w
  go_enter Try.func38, Try.ntmps38
  go_wp2_with fail
  refine (new_any A l.length c l _ (HR.out.mv hB) (by omega)).mono ?_
  rintro e w3 ⟨A1, c1, rfl, o1, b⟩
  rw [HW.out.1, HW.out.2] at *
  replace o1 := own_low o1 (show w.heap.size ≤ _ from by have hs_ := hB.size; simp <;> omega)
  replace hB := Below.via (w := w) (by have hs_ := hB.size; repeat (first | with_reducible exact hB | with_reducible (refine Below.setCell ?_ (by simp <;> omega) _) | with_reducible (refine Below.alloc ?_ (by first | exact hs_ | (simp <;> omega)) _) | with_reducible (refine Below.drew ?_))) b
  clear b
  go_wp2_with fail
  have hcc := own_cap o1
  unfold maxLen at hcc
  refine (unvary_any A1 l.length c1 l 0 16 _ (own_rd (by repeat (first | with_reducible exact o1 | (with_reducible apply own_set_; case hne => first | skip) | with_reducible (apply own_alloc_) | with_reducible (apply own_drew_)))) (by omega) (by omega) (by omega)).mono ?_
  rintro e w4 ⟨rfl, b⟩
  rw [HU0.out.1, HU0.out.2.1, HU0.out.2.2]
  have ne_o1_hc : (Value.slice A1 l.length c1).ownBlock ≠ some w3.heap.size := own_not_ge o1 (by omega)
  have ow_hc : w.heap.size ≤ w3.heap.size := (by have := hB.size; omega)
  replace o1 := own_call (by repeat (first | with_reducible exact o1 | (with_reducible apply own_set_; case hne => first | skip) | with_reducible (apply own_alloc_) | with_reducible (apply own_drew_))) b
  have hc := Blk.via0 (g := w3.heap.size) (t := 70) b (by repeat (first | with_reducible exact Blk.newAt (by simp) _ _ | with_reducible (apply Blk.set_) | with_reducible (apply Blk.far; case hp => (simp <;> omega)) | with_reducible (apply Blk.alloc) | with_reducible (apply Blk.drew)))
  replace hc : Blk w4 w3.heap.size 70 #[.slice A1 l.length c1, .int .i64 (0)] := hc
  replace hB := Below.via (w := w) (by have hs_ := hB.size; repeat (first | with_reducible exact hB | with_reducible (refine Below.setCell ?_ (by simp <;> omega) _) | with_reducible (refine Below.alloc ?_ (by first | exact hs_ | (simp <;> omega)) _) | with_reducible (refine Below.drew ?_))) b
  clear b
  generalize w3.heap.size = pc at *
  have z1 : w4.cell? ⟨pc, 0, none⟩ = some (.slice A1 l.length c1) := (hc.cell 0).trans rfl
  have z2 := hc.frozen 0
  have z3 : w4.cell? ⟨pc, 1, none⟩ = some (.int .i64 (0)) := (hc.cell 1).trans rfl
  have z4 := hc.frozen 1
  have z5 := hc.lt
  go_wp2_with fail
  obtain ⟨Bl, hBl⟩ : ∃ Bl : Nat, Bl = w4.heap.size := ⟨_, rfl⟩
  have hBl1 : pc < Bl := by rw [hBl]; exact hc.lt
  have hBl2 : Bl ≤ w4.heap.size := Nat.le_of_eq hBl
  have hBl3 : w.heap.size ≤ Bl := by rw [hBl]; exact hB.size
  clear hBl
  go_loopw [7, 29] (fun v i wr => ∃ (j q : Nat) (done : List (Nat × List UInt8)) (A2 : Option Addr) (c2 : Nat), j ≤ N ∧ i = .int .i64 (j : Int) ∧ v = .slice A2 j c2 ∧ done.length = j ∧ q ≤ l.length ∧ (rsR l N 0 b).1 = (rsR l (N - j) j q).1 ∧ ((rsR l N 0 b).1 = true → (rsR l N 0 b).2.1 = done ++ (rsR l (N - j) j q).2.1 ∧ (rsR l N 0 b).2.2 = (rsR l (N - j) j q).2.2) ∧
      Blk wr pc 70 #[.slice A1 l.length c1, .int .i64 (q)] ∧ wr.ownsRow w.heap.size 5 1 (.slice A1 l.length c1) l.length (l.map b8) ∧ OwV wr Bl wr.heap.size A2 j c2 done ∧ Below w.heap.size w wr ∧ Bl ≤ wr.heap.size) (fun _ i _ => N - (intOf i).toNat)
  case atStart => exact ⟨0, b, [], none, 0, by omega, rfl, rfl, rfl, hbl, by simp, fun _ => by simp, Blk.eq_ (by repeat (first | with_reducible exact hc | with_reducible (apply Blk.set_) | with_reducible (apply Blk.far; case hp => (simp <;> omega)) | with_reducible (apply Blk.alloc) | with_reducible (apply Blk.drew))) (by rfl), (by repeat (first | with_reducible exact o1 | (with_reducible apply own_set_; case hne => first | exact ne_o1_hc) | with_reducible (apply own_alloc_) | with_reducible (apply own_drew_))), OwV.nil _ _ _ (Nat.le_refl _), (by have hs_ := hB.size; repeat (first | with_reducible exact hB | with_reducible (refine Below.setCell ?_ (by simp <;> omega) _) | with_reducible (refine Below.alloc ?_ (by first | exact hs_ | (simp <;> omega)) _) | with_reducible (refine Below.drew ?_))), by simp <;> omega⟩
  clear z1 z2 z3 z4 z5
  case round =>
    obtain ⟨j, q, done, A2, c2, hj, rfl, rfl, hdl, hql, hr1, hr2, hc, o1, hv, hB, hBlw⟩ := hrel
    have hcc := own_cap o1
    unfold maxLen at hcc
    have HDL := Lib.hid hdl
    have HR1 := Lib.hid hr1
    have HR2 := Lib.hid hr2
    clear hdl hr1 hr2
    have ne_o1_hc := own_blk_ne o1 hc (by decide)
    by_cases hlt : j < N
    rotate_left
    · obtain rfl : j = N := by omega
      have HDD := Lib.hid (show (rsR l j 0 b).1 = true ∧ (rsR l j 0 b).2.1 = done ∧ (rsR l j 0 b).2.2 = q from by
        have h1 := HR1.out
        rw [Nat.sub_self] at h1
        have h2 := HR2.out h1
        rw [Nat.sub_self] at h2
        exact ⟨h1, by rw [h2.1]; simp [rsR], by rw [h2.2]; rfl⟩)
      by_cases hqn : q = l.length
      rotate_left
      · have HD := Lib.hid (show decide (q = l.length) = false from decide_eq_false hqn)
        have HV := Lib.hid (rsb_no (l := l) (by rw [HB.out, HDD.out.2.2, HD.out]; simp))
        clear hqn
        have z501 : wr.cell? ⟨pc, 0, none⟩ = some (.slice A1 l.length c1) := (hc.cell 0).trans rfl
        have z502 := hc.frozen 0
        have z503 : wr.cell? ⟨pc, 1, none⟩ = some (.int .i64 ((q : Int))) := (hc.cell 1).trans rfl
        have z504 := hc.frozen 1
        have z505 := hc.lt
        go_wp2_with fail
        refine (ended26_any A1 l.length c1 q _ (by omega) hql).mono ?_
        rintro e w6 ⟨rfl, b⟩
        rw [HD.out]
        replace hc := Blk.via0 (g := pc) (t := 70) b (by repeat (first | with_reducible exact hc | with_reducible (apply Blk.set_) | with_reducible (apply Blk.far; case hp => (simp <;> omega)) | with_reducible (apply Blk.alloc) | with_reducible (apply Blk.drew)))
        replace hc : Blk w6 pc 70 #[.slice A1 l.length c1, .int .i64 ((q : Int))] := hc
        replace o1 := own_call (by repeat (first | with_reducible exact o1 | (with_reducible apply own_set_; case hne => first | exact ne_o1_hc) | with_reducible (apply own_alloc_) | with_reducible (apply own_drew_))) b
        replace hv := OwV.call (by repeat (first | with_reducible exact hv | (with_reducible apply OwV.setOut; case hp => (simp <;> omega)) | with_reducible (apply OwV.al) | with_reducible (apply OwV.drew))) b
        replace hB := Below.via (w := w) (by have hs_ := hB.size; repeat (first | with_reducible exact hB | with_reducible (refine Below.setCell ?_ (by simp <;> omega) _) | with_reducible (refine Below.alloc ?_ (by first | exact hs_ | (simp <;> omega)) _) | with_reducible (refine Below.drew ?_))) b
        clear z501 z502 z503 z504 z505
        clear b
        have z506 : w6.cell? ⟨pc, 0, none⟩ = some (.slice A1 l.length c1) := (hc.cell 0).trans rfl
        have z507 := hc.frozen 0
        have z508 : w6.cell? ⟨pc, 1, none⟩ = some (.int .i64 ((q : Int))) := (hc.cell 1).trans rfl
        have z509 := hc.frozen 1
        have z510 := hc.lt
        go_wp2_with fail
        go_ret2
        unfold RsP
        exact ⟨none, 0, by rw [HV.out.1, HV.out.2]; rfl, by rw [HV.out.1]; exact (OwV.nil _ _ _ (Nat.zero_le _)).top, (by have hs_ := hB.size; repeat (first | with_reducible exact hB | with_reducible (refine Below.setCell ?_ (by simp <;> omega) _) | with_reducible (refine Below.alloc ?_ (by first | exact hs_ | (simp <;> omega)) _) | with_reducible (refine Below.drew ?_)))⟩
      have HD := Lib.hid (show decide (q = l.length) = true from decide_eq_true hqn)
      clear hqn
      cases hs : stB done
      · have HS := Lib.hid hs
        have HV := Lib.hid (rsb_no (l := l) (by rw [HB.out, HDD.out.2.1, hs]; simp))
        clear hs
        have z501 : wr.cell? ⟨pc, 0, none⟩ = some (.slice A1 l.length c1) := (hc.cell 0).trans rfl
        have z502 := hc.frozen 0
        have z503 : wr.cell? ⟨pc, 1, none⟩ = some (.int .i64 ((q : Int))) := (hc.cell 1).trans rfl
        have z504 := hc.frozen 1
        have z505 := hc.lt
        go_wp2_with fail
        refine (ended26_any A1 l.length c1 q _ (by omega) hql).mono ?_
        rintro e w6 ⟨rfl, b⟩
        rw [HD.out]
        replace hc := Blk.via0 (g := pc) (t := 70) b (by repeat (first | with_reducible exact hc | with_reducible (apply Blk.set_) | with_reducible (apply Blk.far; case hp => (simp <;> omega)) | with_reducible (apply Blk.alloc) | with_reducible (apply Blk.drew)))
        replace hc : Blk w6 pc 70 #[.slice A1 l.length c1, .int .i64 ((q : Int))] := hc
        replace o1 := own_call (by repeat (first | with_reducible exact o1 | (with_reducible apply own_set_; case hne => first | exact ne_o1_hc) | with_reducible (apply own_alloc_) | with_reducible (apply own_drew_))) b
        replace hv := OwV.call (by repeat (first | with_reducible exact hv | (with_reducible apply OwV.setOut; case hp => (simp <;> omega)) | with_reducible (apply OwV.al) | with_reducible (apply OwV.drew))) b
        replace hB := Below.via (w := w) (by have hs_ := hB.size; repeat (first | with_reducible exact hB | with_reducible (refine Below.setCell ?_ (by simp <;> omega) _) | with_reducible (refine Below.alloc ?_ (by first | exact hs_ | (simp <;> omega)) _) | with_reducible (refine Below.drew ?_))) b
        clear z501 z502 z503 z504 z505
        clear b
        have z506 : w6.cell? ⟨pc, 0, none⟩ = some (.slice A1 l.length c1) := (hc.cell 0).trans rfl
        have z507 := hc.frozen 0
        have z508 : w6.cell? ⟨pc, 1, none⟩ = some (.int .i64 ((q : Int))) := (hc.cell 1).trans rfl
        have z509 := hc.frozen 1
        have z510 := hc.lt
        go_wp2_with fail
        refine (areStacks_any A2 j c2 done _ hv.rd (by omega)).mono ?_
        rintro e w7 ⟨rfl, b⟩
        rw [HS.out]
        replace hc := Blk.via0 (g := pc) (t := 70) b (by repeat (first | with_reducible exact hc | with_reducible (apply Blk.set_) | with_reducible (apply Blk.far; case hp => (simp <;> omega)) | with_reducible (apply Blk.alloc) | with_reducible (apply Blk.drew)))
        replace hc : Blk w7 pc 70 #[.slice A1 l.length c1, .int .i64 ((q : Int))] := hc
        replace o1 := own_call (by repeat (first | with_reducible exact o1 | (with_reducible apply own_set_; case hne => first | exact ne_o1_hc) | with_reducible (apply own_alloc_) | with_reducible (apply own_drew_))) b
        replace hv := OwV.call (by repeat (first | with_reducible exact hv | (with_reducible apply OwV.setOut; case hp => (simp <;> omega)) | with_reducible (apply OwV.al) | with_reducible (apply OwV.drew))) b
        replace hB := Below.via (w := w) (by have hs_ := hB.size; repeat (first | with_reducible exact hB | with_reducible (refine Below.setCell ?_ (by simp <;> omega) _) | with_reducible (refine Below.alloc ?_ (by first | exact hs_ | (simp <;> omega)) _) | with_reducible (refine Below.drew ?_))) b
        clear z506 z507 z508 z509 z510
        clear b
        have z511 : w7.cell? ⟨pc, 0, none⟩ = some (.slice A1 l.length c1) := (hc.cell 0).trans rfl
        have z512 := hc.frozen 0
        have z513 : w7.cell? ⟨pc, 1, none⟩ = some (.int .i64 ((q : Int))) := (hc.cell 1).trans rfl
        have z514 := hc.frozen 1
        have z515 := hc.lt
        go_wp2_with fail
        go_ret2
        unfold RsP
        exact ⟨none, 0, by rw [HV.out.1, HV.out.2]; rfl, by rw [HV.out.1]; exact (OwV.nil _ _ _ (Nat.zero_le _)).top, (by have hs_ := hB.size; repeat (first | with_reducible exact hB | with_reducible (refine Below.setCell ?_ (by simp <;> omega) _) | with_reducible (refine Below.alloc ?_ (by first | exact hs_ | (simp <;> omega)) _) | with_reducible (refine Below.drew ?_)))⟩
      have HS := Lib.hid hs
      have HV := Lib.hid (show rsL l = done ∧ rsE l = 0 from by
        have := HY.out (by rw [HB.out, HDD.out.1, HDD.out.2.1, HDD.out.2.2, HD.out, hs]; rfl)
        rw [HDD.out.2.1] at this
        exact this)
      clear hs
      have z501 : wr.cell? ⟨pc, 0, none⟩ = some (.slice A1 l.length c1) := (hc.cell 0).trans rfl
      have z502 := hc.frozen 0
      have z503 : wr.cell? ⟨pc, 1, none⟩ = some (.int .i64 ((q : Int))) := (hc.cell 1).trans rfl
      have z504 := hc.frozen 1
      have z505 := hc.lt
      go_wp2_with fail
      refine (ended26_any A1 l.length c1 q _ (by omega) hql).mono ?_
      rintro e w6 ⟨rfl, b⟩
      rw [HD.out]
      replace hc := Blk.via0 (g := pc) (t := 70) b (by repeat (first | with_reducible exact hc | with_reducible (apply Blk.set_) | with_reducible (apply Blk.far; case hp => (simp <;> omega)) | with_reducible (apply Blk.alloc) | with_reducible (apply Blk.drew)))
      replace hc : Blk w6 pc 70 #[.slice A1 l.length c1, .int .i64 ((q : Int))] := hc
      replace o1 := own_call (by repeat (first | with_reducible exact o1 | (with_reducible apply own_set_; case hne => first | exact ne_o1_hc) | with_reducible (apply own_alloc_) | with_reducible (apply own_drew_))) b
      replace hv := OwV.call (by repeat (first | with_reducible exact hv | (with_reducible apply OwV.setOut; case hp => (simp <;> omega)) | with_reducible (apply OwV.al) | with_reducible (apply OwV.drew))) b
      replace hB := Below.via (w := w) (by have hs_ := hB.size; repeat (first | with_reducible exact hB | with_reducible (refine Below.setCell ?_ (by simp <;> omega) _) | with_reducible (refine Below.alloc ?_ (by first | exact hs_ | (simp <;> omega)) _) | with_reducible (refine Below.drew ?_))) b
      clear z501 z502 z503 z504 z505
      clear b
      have z506 : w6.cell? ⟨pc, 0, none⟩ = some (.slice A1 l.length c1) := (hc.cell 0).trans rfl
      have z507 := hc.frozen 0
      have z508 : w6.cell? ⟨pc, 1, none⟩ = some (.int .i64 ((q : Int))) := (hc.cell 1).trans rfl
      have z509 := hc.frozen 1
      have z510 := hc.lt
      go_wp2_with fail
      refine (areStacks_any A2 j c2 done _ hv.rd (by omega)).mono ?_
      rintro e w7 ⟨rfl, b⟩
      rw [HS.out]
      replace hc := Blk.via0 (g := pc) (t := 70) b (by repeat (first | with_reducible exact hc | with_reducible (apply Blk.set_) | with_reducible (apply Blk.far; case hp => (simp <;> omega)) | with_reducible (apply Blk.alloc) | with_reducible (apply Blk.drew)))
      replace hc : Blk w7 pc 70 #[.slice A1 l.length c1, .int .i64 ((q : Int))] := hc
      replace o1 := own_call (by repeat (first | with_reducible exact o1 | (with_reducible apply own_set_; case hne => first | exact ne_o1_hc) | with_reducible (apply own_alloc_) | with_reducible (apply own_drew_))) b
      replace hv := OwV.call (by repeat (first | with_reducible exact hv | (with_reducible apply OwV.setOut; case hp => (simp <;> omega)) | with_reducible (apply OwV.al) | with_reducible (apply OwV.drew))) b
      replace hB := Below.via (w := w) (by have hs_ := hB.size; repeat (first | with_reducible exact hB | with_reducible (refine Below.setCell ?_ (by simp <;> omega) _) | with_reducible (refine Below.alloc ?_ (by first | exact hs_ | (simp <;> omega)) _) | with_reducible (refine Below.drew ?_))) b
      clear z506 z507 z508 z509 z510
      clear b
      have z511 : w7.cell? ⟨pc, 0, none⟩ = some (.slice A1 l.length c1) := (hc.cell 0).trans rfl
      have z512 := hc.frozen 0
      have z513 : w7.cell? ⟨pc, 1, none⟩ = some (.int .i64 ((q : Int))) := (hc.cell 1).trans rfl
      have z514 := hc.frozen 1
      have z515 := hc.lt
      go_wp2_with fail
      go_ret2
      unfold RsP
      exact ⟨A2, c2, by rw [HV.out.1, HV.out.2, HDL.out]; rfl, by rw [HV.out.1, HDL.out]; exact (hv.low hBl3).top, (by have hs_ := hB.size; repeat (first | with_reducible exact hB | with_reducible (refine Below.setCell ?_ (by simp <;> omega) _) | with_reducible (refine Below.alloc ?_ (by first | exact hs_ | (simp <;> omega)) _) | with_reducible (refine Below.drew ?_)))⟩
    have hM : N - j = (N - (j + 1)) + 1 := by omega
    obtain ⟨bs, hbs⟩ : ∃ bs, 16777216 * (j + 1) = bs := ⟨_, rfl⟩
    have HBC := Lib.hid (fun W => base26_any j W (by omega))
    rw [hbs] at HBC
    have hb64 : bs < 18446744073709551616 := by omega
    have HBS := Lib.hid hbs
    clear hbs
    obtain ⟨A7, n7, c7, a7, hcc7⟩ := utC_cur A1 l.length c1 l (q : Int) 4096
    obtain ⟨S, hss⟩ : ∃ S, utS l (q : Int) 4096 = S := ⟨_, rfl⟩
    obtain ⟨f, hf⟩ : ∃ f, decide (utE l (q : Int) 4096 = 0) = f := ⟨_, rfl⟩
    have HU := Lib.hid (fun W (h : Rb W A1 l.length l) => read26p_any A1 l.length c1 l (q : Int) 4096 bs W h (by omega) (by omega) (by omega) (by omega))
    unfold RdP at HU
    rw [hcc7, hss, hf] at HU
    have HT := Lib.hid (And.intro hcc7 (And.intro hss hf))
    have HM := Lib.hid hM
    clear hcc7 hss hf hM
    have z601 : wr.cell? ⟨pc, 0, none⟩ = some (.slice A1 l.length c1) := (hc.cell 0).trans rfl
    have z602 := hc.frozen 0
    have z603 : wr.cell? ⟨pc, 1, none⟩ = some (.int .i64 ((q : Int))) := (hc.cell 1).trans rfl
    have z604 := hc.frozen 1
    have z605 := hc.lt
    go_wp2_with fail
    clear z601 z602 z603 z604 z605
    go_cut [9, 10, 11] (fun s9 s10 s11 wx => ∃ (p9 p10 H : Nat) (A5 : Option Addr) (c5 : Nat), s9 = .pointer (some ⟨p9, 0, none⟩) ∧ s10 = .pointer (some ⟨p10, 0, none⟩) ∧ s11 = .bool f ∧ H ≤ p9 ∧ H ≤ p10 ∧ Bl ≤ H ∧ Blk wx p9 70 #[.slice A7 n7 c7, .int .i64 a7] ∧ Blk wx p10 75 #[.int .u64 (bs : Int), .slice A5 S.size c5] ∧ OwU wx Bl A5 S.size S.data.toList ∧ (S.size ≤ c5 ∧ c5 ≤ 9223372036854775807) ∧
        Blk wx pc 70 #[.slice A1 l.length c1, .int .i64 ((q : Int))] ∧ wx.ownsRow w.heap.size 5 1 (.slice A1 l.length c1) l.length (l.map b8) ∧ OwV wx Bl H A2 j c2 done ∧ Below w.heap.size w wx)
    case first =>
      refine bx_go2 (by kernel_rfl) (fun hQ x b => ?_)
      replace hc := hc.below b hc.lt
      replace o1 := own_call o1 b
      replace hv := (hv.call b).top
      replace hB := hB.trans (b.mono hB.size)
      have hBlx := Nat.le_trans hBlw b.size
      clear b
      obtain ⟨B_, hB_⟩ : ∃ B_, x.heap.size = B_ := ⟨_, rfl⟩
      rw [hB_] at hv hBlx ⊢
      have hBx : B_ ≤ x.heap.size := Nat.le_of_eq hB_.symm
      have hpB : pc < B_ := by rw [← hB_]; exact hc.lt
      clear hB_ hBlw
      have X0 : ∀ W, BelowX B_ B_ x W → W.cell? ⟨pc, 0, none⟩ = some (.slice A1 l.length c1) := fun W h => ((hc.belowx h hpB (by omega)).cell 0).trans rfl
      have X1 : ∀ W, BelowX B_ B_ x W → W.cell? ⟨pc, 1, none⟩ = some (.int .i64 (q : Int)) := fun W h => ((hc.belowx h hpB (by omega)).cell 1).trans rfl
      refine bx_take (i := 0) (oi := ?oia0x1) (v := ?va0x1) ?hia0x1 (by kernel_rfl) (by kernel_rfl) (by kernel_rfl) hQ ?hwa0x1 ?hya0x1 ?resta0x1
      case hia0x1 => simp only [List.getElem?_toArray, List.getElem?_cons_zero]; rfl
      case hwa0x1 => rfl
      case hya0x1 => intro W hW; go_simp; with_reducible rfl
      simp only [Act.put, List.setIfInBounds_toArray, List.set_cons_zero, List.set_cons_succ]
      refine bx_take (i := 1) (oi := ?oia1x2) (v := ?va1x2) ?hia1x2 (by kernel_rfl) (by kernel_rfl) (by kernel_rfl) hQ ?hwa1x2 ?hya1x2 ?resta1x2
      case hia1x2 => simp only [List.getElem?_toArray, List.getElem?_cons_zero, List.getElem?_cons_succ]; rfl
      case hwa1x2 => rfl
      case hya1x2 => intro W hW; go_simp; with_reducible rfl
      simp only [Act.put, List.setIfInBounds_toArray, List.set_cons_zero, List.set_cons_succ]
      refine bx_three (i := 2) (j := 8) (k := 9) (oi := ?oia2x3) (oj := ?oja2x3) (ok := ?oka2x3) (by kernel_rfl) ?hia2x3 ?hja2x3 ?hka2x3 ?hwa2x3 ?hva2x3 ?hua2x3 (fun K hK => ?_) (fun K hK => ?_) (fun K hK => ?_)
      case hia2x3 => simp only [List.getElem?_toArray, List.getElem?_cons_zero, List.getElem?_cons_succ]; rfl
      case hja2x3 => simp only [List.getElem?_toArray, List.getElem?_cons_zero, List.getElem?_cons_succ]; rfl
      case hka2x3 => simp only [List.getElem?_toArray, List.getElem?_cons_zero, List.getElem?_cons_succ]; rfl
      case hwa2x3 => rfl
      case hva2x3 => rfl
      case hua2x3 => rfl
      · go_simp
        refine (HBC.out _).mono ?_; rintro e wq ⟨rfl, rfl⟩; refine hK _ _ (BelowX.refl _ _ _) ?_
        try simp only [Act.put, List.setIfInBounds_toArray, List.set_cons_zero, List.set_cons_succ]
        refine bx_three (i := 3) (j := 8) (k := 9) (oi := ?oia3x4) (oj := ?oja3x4) (ok := ?oka3x4) (by kernel_rfl) ?hia3x4 ?hja3x4 ?hka3x4 ?hwa3x4 ?hva3x4 ?hua3x4 (fun K hK => ?_) (fun K hK => ?_) (fun K hK => ?_)
        case hia3x4 => simp only [List.getElem?_toArray, List.getElem?_cons_zero, List.getElem?_cons_succ]; rfl
        case hja3x4 => simp only [List.getElem?_toArray, List.getElem?_cons_zero, List.getElem?_cons_succ]; rfl
        case hka3x4 => simp only [List.getElem?_toArray, List.getElem?_cons_zero, List.getElem?_cons_succ]; rfl
        case hwa3x4 => rfl
        case hva3x4 => rfl
        case hua3x4 => rfl
        · go_simp
          refine (HU.out _ (own_rd o1)).mono ?_; rintro e x ⟨A5, c5, rfl, ho, hcap, b⟩; replace ho := ho.low (show Bl ≤ _ from by omega); replace hc := hc.below b hc.lt; replace o1 := own_call o1 b; replace hv := hv.call b; (try replace k9 := k9.below b k9.lt); (try replace k10 := k10.below b k10.lt); replace hB := hB.trans (b.mono hB.size); have bx := BelowX.of (Below.mono b hBx) B_; replace hBx := Nat.le_trans hBx b.size; refine hK _ _ bx ?_; clear b bx; clear X0 X1; have X0 : ∀ W, BelowX B_ B_ x W → W.cell? ⟨pc, 0, none⟩ = some (.slice A1 l.length c1) := fun W h => ((hc.belowx h hpB (by omega)).cell 0).trans rfl; have X1 : ∀ W, BelowX B_ B_ x W → W.cell? ⟨pc, 1, none⟩ = some (.int .i64 (q : Int)) := fun W h => ((hc.belowx h hpB (by omega)).cell 1).trans rfl
          try simp only [Act.put, List.setIfInBounds_toArray, List.set_cons_zero, List.set_cons_succ]
          refine bx_take (i := 4) (oi := ?oia4x5) (v := ?va4x5) ?hia4x5 (by kernel_rfl) (by kernel_rfl) (by kernel_rfl) hQ ?hwa4x5 ?hya4x5 ?resta4x5
          case hia4x5 => simp only [List.getElem?_toArray, List.getElem?_cons_zero, List.getElem?_cons_succ]; rfl
          case hwa4x5 => rfl
          case hya4x5 => intro W hW; go_simp; with_reducible rfl
          simp only [Act.put, List.setIfInBounds_toArray, List.set_cons_zero, List.set_cons_succ]
          refine bx_take (i := 5) (oi := ?oia5x6) (v := ?va5x6) ?hia5x6 (by kernel_rfl) (by kernel_rfl) (by kernel_rfl) hQ ?hwa5x6 ?hya5x6 ?resta5x6
          case hia5x6 => simp only [List.getElem?_toArray, List.getElem?_cons_zero, List.getElem?_cons_succ]; rfl
          case hwa5x6 => rfl
          case hya5x6 => intro W hW; go_simp; with_reducible rfl
          simp only [Act.put, List.setIfInBounds_toArray, List.set_cons_zero, List.set_cons_succ]
          refine bx_take (i := 6) (oi := ?oia6x7) (v := ?va6x7) ?hia6x7 (by kernel_rfl) (by kernel_rfl) (by kernel_rfl) hQ ?hwa6x7 ?hya6x7 ?resta6x7
          case hia6x7 => simp only [List.getElem?_toArray, List.getElem?_cons_zero, List.getElem?_cons_succ]; rfl
          case hwa6x7 => rfl
          case hya6x7 => intro W hW; go_simp; with_reducible rfl
          simp only [Act.put, List.setIfInBounds_toArray, List.set_cons_zero, List.set_cons_succ]
          refine bx_take (i := 7) (oi := ?oia7x8) (v := ?va7x8) ?hia7x8 (by kernel_rfl) (by kernel_rfl) (by kernel_rfl) hQ ?hwa7x8 ?hya7x8 ?resta7x8
          case hia7x8 => simp only [List.getElem?_toArray, List.getElem?_cons_zero, List.getElem?_cons_succ]; rfl
          case hwa7x8 => rfl
          case hya7x8 => intro W hW; go_simp; with_reducible rfl
          simp only [Act.put, List.setIfInBounds_toArray, List.set_cons_zero, List.set_cons_succ]
          refine bx_two (i := 8) (j := 9) (oi := ?oia8x9) (oj := ?oja8x9) (by kernel_rfl) ?hia8x9 ?hja8x9 ?hwa8x9 ?hva8x9 (fun K hK => ?_) (fun K hK => ?_)
          case hia8x9 => simp only [List.getElem?_toArray, List.getElem?_cons_zero, List.getElem?_cons_succ]; rfl
          case hja8x9 => simp only [List.getElem?_toArray, List.getElem?_cons_zero, List.getElem?_cons_succ]; rfl
          case hwa8x9 => rfl
          case hva8x9 => rfl
          · go_simp
            have b := Ext.al x (.cells #[.slice none 0 0, .int .i64 0] 70); have hxp9 := hBx; replace hc := hc.below b hc.lt; replace o1 := own_call o1 b; replace hv := hv.call b; (try replace k9 := k9.below b k9.lt); (try replace k10 := k10.below b k10.lt); (try replace ho := ho.call b); replace hB := hB.trans (b.mono hB.size); have bx := BelowX.of (Below.mono b hBx) B_; replace hBx := Nat.le_trans hBx b.size; have k9 := Blk.new x 70 #[.slice none 0 0, .int .i64 0]; refine hK _ _ bx ?_; clear b bx; generalize hg_ : x.heap.size = p9 at *; clear hg_; generalize hw_ : x.alloc (.cells #[.slice none 0 0, .int .i64 0] 70) = x at *; clear hw_; clear X0 X1; have X0 : ∀ W, BelowX B_ B_ x W → W.cell? ⟨pc, 0, none⟩ = some (.slice A1 l.length c1) := fun W h => ((hc.belowx h hpB (by omega)).cell 0).trans rfl; have X1 : ∀ W, BelowX B_ B_ x W → W.cell? ⟨pc, 1, none⟩ = some (.int .i64 (q : Int)) := fun W h => ((hc.belowx h hpB (by omega)).cell 1).trans rfl
            try simp only [Act.put, List.setIfInBounds_toArray, List.set_cons_zero, List.set_cons_succ]
            refine bx_step (i := 9) (oi := ?oia9x10) (by kernel_rfl) ?hia9x10 ?hwa9x10 (fun K hK => ?_)
            case hia9x10 => simp only [List.getElem?_toArray, List.getElem?_cons_zero, List.getElem?_cons_succ]; rfl
            case hwa9x10 => rfl
            go_simp
            have b := Ext.al x (.cells #[.int .u64 0, .slice none 0 0] 75); have hxp10 := hBx; replace hc := hc.below b hc.lt; replace o1 := own_call o1 b; replace hv := hv.call b; (try replace k9 := k9.below b k9.lt); (try replace k10 := k10.below b k10.lt); (try replace ho := ho.call b); replace hB := hB.trans (b.mono hB.size); have bx := BelowX.of (Below.mono b hBx) B_; replace hBx := Nat.le_trans hBx b.size; have k10 := Blk.new x 75 #[.int .u64 0, .slice none 0 0]; refine hK _ _ bx ?_; clear b bx; generalize hg_ : x.heap.size = p10 at *; clear hg_; generalize hw_ : x.alloc (.cells #[.int .u64 0, .slice none 0 0] 75) = x at *; clear hw_; clear X0 X1; have X0 : ∀ W, BelowX B_ B_ x W → W.cell? ⟨pc, 0, none⟩ = some (.slice A1 l.length c1) := fun W h => ((hc.belowx h hpB (by omega)).cell 0).trans rfl; have X1 : ∀ W, BelowX B_ B_ x W → W.cell? ⟨pc, 1, none⟩ = some (.int .i64 (q : Int)) := fun W h => ((hc.belowx h hpB (by omega)).cell 1).trans rfl
            try simp only [Act.put, List.setIfInBounds_toArray, List.set_cons_zero, List.set_cons_succ]
            refine bx_step (i := 10) (oi := ?oia10x11) (by kernel_rfl) ?hia10x11 ?hwa10x11 (fun K hK => ?_)
            case hia10x11 => simp only [List.getElem?_toArray, List.getElem?_cons_zero, List.getElem?_cons_succ]; rfl
            case hwa10x11 => rfl
            have y0 := (k9.cell 0).trans (show _ = some (.slice none 0 0) from rfl); have y1 := (k9.cell 1).trans (show _ = some (.int .i64 0) from rfl); have y2 := k9.frozen 0; have y3 := k9.frozen 1; go_simp; clear y0 y1 y2 y3; refine hK _ _ (((BelowX.refl _ _ _).setHi hxp9 0 _).setHi hxp9 1 _) ?_; replace hc := (hc.far (p := ⟨p9, 0, none⟩) (by simp <;> omega) (.slice A7 n7 c7)).far (p := ⟨p9, 1, none⟩) (by simp <;> omega) (.int .i64 a7); replace o1 := own_setNe (own_setNe o1 k9 (by decide) 0 (.slice A7 n7 c7)) (k9.set_ 0 (.slice A7 n7 c7)) (by decide) 1 (.int .i64 a7); replace ho := OwU.far (OwU.far ho k9 (by decide) 0 (.slice A7 n7 c7)) (k9.set_ 0 (.slice A7 n7 c7)) (by decide) 1 (.int .i64 a7); replace hv := OwV.setOut (a := ⟨p9, 1, none⟩) (by simp <;> omega) (OwV.setOut (a := ⟨p9, 0, none⟩) (by simp <;> omega) hv (.slice A7 n7 c7)) (.int .i64 a7); replace k10 := (k10.far (p := ⟨p9, 0, none⟩) (fun e => Blk.ne_ k10 k9 (by decide) e) (.slice A7 n7 c7)).far (p := ⟨p9, 1, none⟩) (fun e => Blk.ne_ k10 k9 (by decide) e) (.int .i64 a7); replace k9 : Blk _ p9 70 #[.slice A7 n7 c7, .int .i64 a7] := (k9.set_ 0 (.slice A7 n7 c7)).set_ 1 (.int .i64 a7); replace hB := setHiB (setHiB hB (show w.heap.size ≤ p9 by omega) 0 (.slice A7 n7 c7)) (show w.heap.size ≤ p9 by omega) 1 (.int .i64 a7); replace hBx : B_ ≤ ((x.setCell ⟨p9, 0, none⟩ (.slice A7 n7 c7)).setCell ⟨p9, 1, none⟩ (.int .i64 a7)).heap.size := (by simpa using hBx); generalize hw_ : (x.setCell ⟨p9, 0, none⟩ (.slice A7 n7 c7)).setCell ⟨p9, 1, none⟩ (.int .i64 a7) = x at *; clear hw_; clear X0 X1; have X0 : ∀ W, BelowX B_ B_ x W → W.cell? ⟨pc, 0, none⟩ = some (.slice A1 l.length c1) := fun W h => ((hc.belowx h hpB (by omega)).cell 0).trans rfl; have X1 : ∀ W, BelowX B_ B_ x W → W.cell? ⟨pc, 1, none⟩ = some (.int .i64 (q : Int)) := fun W h => ((hc.belowx h hpB (by omega)).cell 1).trans rfl
            try simp only [Act.put, List.setIfInBounds_toArray, List.set_cons_zero, List.set_cons_succ]
            refine bx_step (i := 11) (oi := ?oia11x12) (by kernel_rfl) ?hia11x12 ?hwa11x12 (fun K hK => ?_)
            case hia11x12 => simp only [List.getElem?_toArray, List.getElem?_cons_zero, List.getElem?_cons_succ]; rfl
            case hwa11x12 => rfl
            have y0 := (k10.cell 0).trans (show _ = some (.int .u64 0) from rfl); have y1 := (k10.cell 1).trans (show _ = some (.slice none 0 0) from rfl); have y2 := k10.frozen 0; have y3 := k10.frozen 1; go_simp; clear y0 y1 y2 y3; refine hK _ _ (((BelowX.refl _ _ _).setHi hxp10 0 _).setHi hxp10 1 _) ?_; replace hc := (hc.far (p := ⟨p10, 0, none⟩) (by simp <;> omega) (.int .u64 (bs : Int))).far (p := ⟨p10, 1, none⟩) (by simp <;> omega) (.slice A5 S.size c5); replace o1 := own_setNe (own_setNe o1 k10 (by decide) 0 (.int .u64 (bs : Int))) (k10.set_ 0 (.int .u64 (bs : Int))) (by decide) 1 (.slice A5 S.size c5); replace ho := OwU.far (OwU.far ho k10 (by decide) 0 (.int .u64 (bs : Int))) (k10.set_ 0 (.int .u64 (bs : Int))) (by decide) 1 (.slice A5 S.size c5); replace hv := OwV.setOut (a := ⟨p10, 1, none⟩) (by simp <;> omega) (OwV.setOut (a := ⟨p10, 0, none⟩) (by simp <;> omega) hv (.int .u64 (bs : Int))) (.slice A5 S.size c5); replace k9 := (k9.far (p := ⟨p10, 0, none⟩) (fun e => Blk.ne_ k9 k10 (by decide) e) (.int .u64 (bs : Int))).far (p := ⟨p10, 1, none⟩) (fun e => Blk.ne_ k9 k10 (by decide) e) (.slice A5 S.size c5); replace k10 : Blk _ p10 75 #[.int .u64 (bs : Int), .slice A5 S.size c5] := (k10.set_ 0 (.int .u64 (bs : Int))).set_ 1 (.slice A5 S.size c5); replace hB := setHiB (setHiB hB (show w.heap.size ≤ p10 by omega) 0 (.int .u64 (bs : Int))) (show w.heap.size ≤ p10 by omega) 1 (.slice A5 S.size c5); replace hBx : B_ ≤ ((x.setCell ⟨p10, 0, none⟩ (.int .u64 (bs : Int))).setCell ⟨p10, 1, none⟩ (.slice A5 S.size c5)).heap.size := (by simpa using hBx); generalize hw_ : (x.setCell ⟨p10, 0, none⟩ (.int .u64 (bs : Int))).setCell ⟨p10, 1, none⟩ (.slice A5 S.size c5) = x at *; clear hw_; clear X0 X1; have X0 : ∀ W, BelowX B_ B_ x W → W.cell? ⟨pc, 0, none⟩ = some (.slice A1 l.length c1) := fun W h => ((hc.belowx h hpB (by omega)).cell 0).trans rfl; have X1 : ∀ W, BelowX B_ B_ x W → W.cell? ⟨pc, 1, none⟩ = some (.int .i64 (q : Int)) := fun W h => ((hc.belowx h hpB (by omega)).cell 1).trans rfl
            try simp only [Act.put, List.setIfInBounds_toArray, List.set_cons_zero, List.set_cons_succ]
            refine bx_take (i := 12) (oi := ?oia12x13) (v := ?va12x13) ?hia12x13 (by kernel_rfl) (by kernel_rfl) (by kernel_rfl) hQ ?hwa12x13 ?hya12x13 ?resta12x13
            case hia12x13 => simp only [List.getElem?_toArray, List.getElem?_cons_zero, List.getElem?_cons_succ]; rfl
            case hwa12x13 => rfl
            case hya12x13 => intro W hW; go_simp; with_reducible rfl
            simp only [Act.put, List.setIfInBounds_toArray, List.set_cons_zero, List.set_cons_succ]
            refine wpAnyH_done (by kernel_rfl) ?_ _
            simp only [NoP]
            go_wp2_with fail
            go_meet
            case rel => exact ⟨p9, p10, B_, A5, c5, rfl, rfl, rfl, by omega, by omega, by omega, k9, k10, ho, hcap, hc, o1, hv, hB⟩
          · go_simp
            have b := Ext.al x (.cells #[.int .u64 0, .slice none 0 0] 75); have hxp10 := hBx; replace hc := hc.below b hc.lt; replace o1 := own_call o1 b; replace hv := hv.call b; (try replace k9 := k9.below b k9.lt); (try replace k10 := k10.below b k10.lt); (try replace ho := ho.call b); replace hB := hB.trans (b.mono hB.size); have bx := BelowX.of (Below.mono b hBx) B_; replace hBx := Nat.le_trans hBx b.size; have k10 := Blk.new x 75 #[.int .u64 0, .slice none 0 0]; refine hK _ _ bx ?_; clear b bx; generalize hg_ : x.heap.size = p10 at *; clear hg_; generalize hw_ : x.alloc (.cells #[.int .u64 0, .slice none 0 0] 75) = x at *; clear hw_; clear X0 X1; have X0 : ∀ W, BelowX B_ B_ x W → W.cell? ⟨pc, 0, none⟩ = some (.slice A1 l.length c1) := fun W h => ((hc.belowx h hpB (by omega)).cell 0).trans rfl; have X1 : ∀ W, BelowX B_ B_ x W → W.cell? ⟨pc, 1, none⟩ = some (.int .i64 (q : Int)) := fun W h => ((hc.belowx h hpB (by omega)).cell 1).trans rfl
            try simp only [Act.put, List.setIfInBounds_toArray, List.set_cons_zero, List.set_cons_succ]
            refine bx_step (i := 8) (oi := ?oia8x14) (by kernel_rfl) ?hia8x14 ?hwa8x14 (fun K hK => ?_)
            case hia8x14 => simp only [List.getElem?_toArray, List.getElem?_cons_zero, List.getElem?_cons_succ]; rfl
            case hwa8x14 => rfl
            go_simp
            have b := Ext.al x (.cells #[.slice none 0 0, .int .i64 0] 70); have hxp9 := hBx; replace hc := hc.below b hc.lt; replace o1 := own_call o1 b; replace hv := hv.call b; (try replace k9 := k9.below b k9.lt); (try replace k10 := k10.below b k10.lt); (try replace ho := ho.call b); replace hB := hB.trans (b.mono hB.size); have bx := BelowX.of (Below.mono b hBx) B_; replace hBx := Nat.le_trans hBx b.size; have k9 := Blk.new x 70 #[.slice none 0 0, .int .i64 0]; refine hK _ _ bx ?_; clear b bx; generalize hg_ : x.heap.size = p9 at *; clear hg_; generalize hw_ : x.alloc (.cells #[.slice none 0 0, .int .i64 0] 70) = x at *; clear hw_; clear X0 X1; have X0 : ∀ W, BelowX B_ B_ x W → W.cell? ⟨pc, 0, none⟩ = some (.slice A1 l.length c1) := fun W h => ((hc.belowx h hpB (by omega)).cell 0).trans rfl; have X1 : ∀ W, BelowX B_ B_ x W → W.cell? ⟨pc, 1, none⟩ = some (.int .i64 (q : Int)) := fun W h => ((hc.belowx h hpB (by omega)).cell 1).trans rfl
            try simp only [Act.put, List.setIfInBounds_toArray, List.set_cons_zero, List.set_cons_succ]
            refine bx_step (i := 10) (oi := ?oia10x15) (by kernel_rfl) ?hia10x15 ?hwa10x15 (fun K hK => ?_)
            case hia10x15 => simp only [List.getElem?_toArray, List.getElem?_cons_zero, List.getElem?_cons_succ]; rfl
            case hwa10x15 => rfl
            have y0 := (k9.cell 0).trans (show _ = some (.slice none 0 0) from rfl); have y1 := (k9.cell 1).trans (show _ = some (.int .i64 0) from rfl); have y2 := k9.frozen 0; have y3 := k9.frozen 1; go_simp; clear y0 y1 y2 y3; refine hK _ _ (((BelowX.refl _ _ _).setHi hxp9 0 _).setHi hxp9 1 _) ?_; replace hc := (hc.far (p := ⟨p9, 0, none⟩) (by simp <;> omega) (.slice A7 n7 c7)).far (p := ⟨p9, 1, none⟩) (by simp <;> omega) (.int .i64 a7); replace o1 := own_setNe (own_setNe o1 k9 (by decide) 0 (.slice A7 n7 c7)) (k9.set_ 0 (.slice A7 n7 c7)) (by decide) 1 (.int .i64 a7); replace ho := OwU.far (OwU.far ho k9 (by decide) 0 (.slice A7 n7 c7)) (k9.set_ 0 (.slice A7 n7 c7)) (by decide) 1 (.int .i64 a7); replace hv := OwV.setOut (a := ⟨p9, 1, none⟩) (by simp <;> omega) (OwV.setOut (a := ⟨p9, 0, none⟩) (by simp <;> omega) hv (.slice A7 n7 c7)) (.int .i64 a7); replace k10 := (k10.far (p := ⟨p9, 0, none⟩) (fun e => Blk.ne_ k10 k9 (by decide) e) (.slice A7 n7 c7)).far (p := ⟨p9, 1, none⟩) (fun e => Blk.ne_ k10 k9 (by decide) e) (.int .i64 a7); replace k9 : Blk _ p9 70 #[.slice A7 n7 c7, .int .i64 a7] := (k9.set_ 0 (.slice A7 n7 c7)).set_ 1 (.int .i64 a7); replace hB := setHiB (setHiB hB (show w.heap.size ≤ p9 by omega) 0 (.slice A7 n7 c7)) (show w.heap.size ≤ p9 by omega) 1 (.int .i64 a7); replace hBx : B_ ≤ ((x.setCell ⟨p9, 0, none⟩ (.slice A7 n7 c7)).setCell ⟨p9, 1, none⟩ (.int .i64 a7)).heap.size := (by simpa using hBx); generalize hw_ : (x.setCell ⟨p9, 0, none⟩ (.slice A7 n7 c7)).setCell ⟨p9, 1, none⟩ (.int .i64 a7) = x at *; clear hw_; clear X0 X1; have X0 : ∀ W, BelowX B_ B_ x W → W.cell? ⟨pc, 0, none⟩ = some (.slice A1 l.length c1) := fun W h => ((hc.belowx h hpB (by omega)).cell 0).trans rfl; have X1 : ∀ W, BelowX B_ B_ x W → W.cell? ⟨pc, 1, none⟩ = some (.int .i64 (q : Int)) := fun W h => ((hc.belowx h hpB (by omega)).cell 1).trans rfl
            try simp only [Act.put, List.setIfInBounds_toArray, List.set_cons_zero, List.set_cons_succ]
            refine bx_step (i := 11) (oi := ?oia11x16) (by kernel_rfl) ?hia11x16 ?hwa11x16 (fun K hK => ?_)
            case hia11x16 => simp only [List.getElem?_toArray, List.getElem?_cons_zero, List.getElem?_cons_succ]; rfl
            case hwa11x16 => rfl
            have y0 := (k10.cell 0).trans (show _ = some (.int .u64 0) from rfl); have y1 := (k10.cell 1).trans (show _ = some (.slice none 0 0) from rfl); have y2 := k10.frozen 0; have y3 := k10.frozen 1; go_simp; clear y0 y1 y2 y3; refine hK _ _ (((BelowX.refl _ _ _).setHi hxp10 0 _).setHi hxp10 1 _) ?_; replace hc := (hc.far (p := ⟨p10, 0, none⟩) (by simp <;> omega) (.int .u64 (bs : Int))).far (p := ⟨p10, 1, none⟩) (by simp <;> omega) (.slice A5 S.size c5); replace o1 := own_setNe (own_setNe o1 k10 (by decide) 0 (.int .u64 (bs : Int))) (k10.set_ 0 (.int .u64 (bs : Int))) (by decide) 1 (.slice A5 S.size c5); replace ho := OwU.far (OwU.far ho k10 (by decide) 0 (.int .u64 (bs : Int))) (k10.set_ 0 (.int .u64 (bs : Int))) (by decide) 1 (.slice A5 S.size c5); replace hv := OwV.setOut (a := ⟨p10, 1, none⟩) (by simp <;> omega) (OwV.setOut (a := ⟨p10, 0, none⟩) (by simp <;> omega) hv (.int .u64 (bs : Int))) (.slice A5 S.size c5); replace k9 := (k9.far (p := ⟨p10, 0, none⟩) (fun e => Blk.ne_ k9 k10 (by decide) e) (.int .u64 (bs : Int))).far (p := ⟨p10, 1, none⟩) (fun e => Blk.ne_ k9 k10 (by decide) e) (.slice A5 S.size c5); replace k10 : Blk _ p10 75 #[.int .u64 (bs : Int), .slice A5 S.size c5] := (k10.set_ 0 (.int .u64 (bs : Int))).set_ 1 (.slice A5 S.size c5); replace hB := setHiB (setHiB hB (show w.heap.size ≤ p10 by omega) 0 (.int .u64 (bs : Int))) (show w.heap.size ≤ p10 by omega) 1 (.slice A5 S.size c5); replace hBx : B_ ≤ ((x.setCell ⟨p10, 0, none⟩ (.int .u64 (bs : Int))).setCell ⟨p10, 1, none⟩ (.slice A5 S.size c5)).heap.size := (by simpa using hBx); generalize hw_ : (x.setCell ⟨p10, 0, none⟩ (.int .u64 (bs : Int))).setCell ⟨p10, 1, none⟩ (.slice A5 S.size c5) = x at *; clear hw_; clear X0 X1; have X0 : ∀ W, BelowX B_ B_ x W → W.cell? ⟨pc, 0, none⟩ = some (.slice A1 l.length c1) := fun W h => ((hc.belowx h hpB (by omega)).cell 0).trans rfl; have X1 : ∀ W, BelowX B_ B_ x W → W.cell? ⟨pc, 1, none⟩ = some (.int .i64 (q : Int)) := fun W h => ((hc.belowx h hpB (by omega)).cell 1).trans rfl
            try simp only [Act.put, List.setIfInBounds_toArray, List.set_cons_zero, List.set_cons_succ]
            refine bx_take (i := 12) (oi := ?oia12x17) (v := ?va12x17) ?hia12x17 (by kernel_rfl) (by kernel_rfl) (by kernel_rfl) hQ ?hwa12x17 ?hya12x17 ?resta12x17
            case hia12x17 => simp only [List.getElem?_toArray, List.getElem?_cons_zero, List.getElem?_cons_succ]; rfl
            case hwa12x17 => rfl
            case hya12x17 => intro W hW; go_simp; with_reducible rfl
            simp only [Act.put, List.setIfInBounds_toArray, List.set_cons_zero, List.set_cons_succ]
            refine wpAnyH_done (by kernel_rfl) ?_ _
            simp only [NoP]
            go_wp2_with fail
            go_meet
            case rel => exact ⟨p9, p10, B_, A5, c5, rfl, rfl, rfl, by omega, by omega, by omega, k9, k10, ho, hcap, hc, o1, hv, hB⟩
        · go_simp
          have b := Ext.al x (.cells #[.slice none 0 0, .int .i64 0] 70); have hxp9 := hBx; replace hc := hc.below b hc.lt; replace o1 := own_call o1 b; replace hv := hv.call b; (try replace k9 := k9.below b k9.lt); (try replace k10 := k10.below b k10.lt); (try replace ho := ho.call b); replace hB := hB.trans (b.mono hB.size); have bx := BelowX.of (Below.mono b hBx) B_; replace hBx := Nat.le_trans hBx b.size; have k9 := Blk.new x 70 #[.slice none 0 0, .int .i64 0]; refine hK _ _ bx ?_; clear b bx; generalize hg_ : x.heap.size = p9 at *; clear hg_; generalize hw_ : x.alloc (.cells #[.slice none 0 0, .int .i64 0] 70) = x at *; clear hw_; clear X0 X1; have X0 : ∀ W, BelowX B_ B_ x W → W.cell? ⟨pc, 0, none⟩ = some (.slice A1 l.length c1) := fun W h => ((hc.belowx h hpB (by omega)).cell 0).trans rfl; have X1 : ∀ W, BelowX B_ B_ x W → W.cell? ⟨pc, 1, none⟩ = some (.int .i64 (q : Int)) := fun W h => ((hc.belowx h hpB (by omega)).cell 1).trans rfl
          try simp only [Act.put, List.setIfInBounds_toArray, List.set_cons_zero, List.set_cons_succ]
          refine bx_two (i := 3) (j := 9) (oi := ?oia3x18) (oj := ?oja3x18) (by kernel_rfl) ?hia3x18 ?hja3x18 ?hwa3x18 ?hva3x18 (fun K hK => ?_) (fun K hK => ?_)
          case hia3x18 => simp only [List.getElem?_toArray, List.getElem?_cons_zero, List.getElem?_cons_succ]; rfl
          case hja3x18 => simp only [List.getElem?_toArray, List.getElem?_cons_zero, List.getElem?_cons_succ]; rfl
          case hwa3x18 => rfl
          case hva3x18 => rfl
          · go_simp
            refine (HU.out _ (own_rd o1)).mono ?_; rintro e x ⟨A5, c5, rfl, ho, hcap, b⟩; replace ho := ho.low (show Bl ≤ _ from by omega); replace hc := hc.below b hc.lt; replace o1 := own_call o1 b; replace hv := hv.call b; (try replace k9 := k9.below b k9.lt); (try replace k10 := k10.below b k10.lt); replace hB := hB.trans (b.mono hB.size); have bx := BelowX.of (Below.mono b hBx) B_; replace hBx := Nat.le_trans hBx b.size; refine hK _ _ bx ?_; clear b bx; clear X0 X1; have X0 : ∀ W, BelowX B_ B_ x W → W.cell? ⟨pc, 0, none⟩ = some (.slice A1 l.length c1) := fun W h => ((hc.belowx h hpB (by omega)).cell 0).trans rfl; have X1 : ∀ W, BelowX B_ B_ x W → W.cell? ⟨pc, 1, none⟩ = some (.int .i64 (q : Int)) := fun W h => ((hc.belowx h hpB (by omega)).cell 1).trans rfl
            try simp only [Act.put, List.setIfInBounds_toArray, List.set_cons_zero, List.set_cons_succ]
            refine bx_take (i := 4) (oi := ?oia4x19) (v := ?va4x19) ?hia4x19 (by kernel_rfl) (by kernel_rfl) (by kernel_rfl) hQ ?hwa4x19 ?hya4x19 ?resta4x19
            case hia4x19 => simp only [List.getElem?_toArray, List.getElem?_cons_zero, List.getElem?_cons_succ]; rfl
            case hwa4x19 => rfl
            case hya4x19 => intro W hW; go_simp; with_reducible rfl
            simp only [Act.put, List.setIfInBounds_toArray, List.set_cons_zero, List.set_cons_succ]
            refine bx_take (i := 5) (oi := ?oia5x20) (v := ?va5x20) ?hia5x20 (by kernel_rfl) (by kernel_rfl) (by kernel_rfl) hQ ?hwa5x20 ?hya5x20 ?resta5x20
            case hia5x20 => simp only [List.getElem?_toArray, List.getElem?_cons_zero, List.getElem?_cons_succ]; rfl
            case hwa5x20 => rfl
            case hya5x20 => intro W hW; go_simp; with_reducible rfl
            simp only [Act.put, List.setIfInBounds_toArray, List.set_cons_zero, List.set_cons_succ]
            refine bx_take (i := 6) (oi := ?oia6x21) (v := ?va6x21) ?hia6x21 (by kernel_rfl) (by kernel_rfl) (by kernel_rfl) hQ ?hwa6x21 ?hya6x21 ?resta6x21
            case hia6x21 => simp only [List.getElem?_toArray, List.getElem?_cons_zero, List.getElem?_cons_succ]; rfl
            case hwa6x21 => rfl
            case hya6x21 => intro W hW; go_simp; with_reducible rfl
            simp only [Act.put, List.setIfInBounds_toArray, List.set_cons_zero, List.set_cons_succ]
            refine bx_take (i := 7) (oi := ?oia7x22) (v := ?va7x22) ?hia7x22 (by kernel_rfl) (by kernel_rfl) (by kernel_rfl) hQ ?hwa7x22 ?hya7x22 ?resta7x22
            case hia7x22 => simp only [List.getElem?_toArray, List.getElem?_cons_zero, List.getElem?_cons_succ]; rfl
            case hwa7x22 => rfl
            case hya7x22 => intro W hW; go_simp; with_reducible rfl
            simp only [Act.put, List.setIfInBounds_toArray, List.set_cons_zero, List.set_cons_succ]
            refine bx_step (i := 9) (oi := ?oia9x23) (by kernel_rfl) ?hia9x23 ?hwa9x23 (fun K hK => ?_)
            case hia9x23 => simp only [List.getElem?_toArray, List.getElem?_cons_zero, List.getElem?_cons_succ]; rfl
            case hwa9x23 => rfl
            go_simp
            have b := Ext.al x (.cells #[.int .u64 0, .slice none 0 0] 75); have hxp10 := hBx; replace hc := hc.below b hc.lt; replace o1 := own_call o1 b; replace hv := hv.call b; (try replace k9 := k9.below b k9.lt); (try replace k10 := k10.below b k10.lt); (try replace ho := ho.call b); replace hB := hB.trans (b.mono hB.size); have bx := BelowX.of (Below.mono b hBx) B_; replace hBx := Nat.le_trans hBx b.size; have k10 := Blk.new x 75 #[.int .u64 0, .slice none 0 0]; refine hK _ _ bx ?_; clear b bx; generalize hg_ : x.heap.size = p10 at *; clear hg_; generalize hw_ : x.alloc (.cells #[.int .u64 0, .slice none 0 0] 75) = x at *; clear hw_; clear X0 X1; have X0 : ∀ W, BelowX B_ B_ x W → W.cell? ⟨pc, 0, none⟩ = some (.slice A1 l.length c1) := fun W h => ((hc.belowx h hpB (by omega)).cell 0).trans rfl; have X1 : ∀ W, BelowX B_ B_ x W → W.cell? ⟨pc, 1, none⟩ = some (.int .i64 (q : Int)) := fun W h => ((hc.belowx h hpB (by omega)).cell 1).trans rfl
            try simp only [Act.put, List.setIfInBounds_toArray, List.set_cons_zero, List.set_cons_succ]
            refine bx_step (i := 10) (oi := ?oia10x24) (by kernel_rfl) ?hia10x24 ?hwa10x24 (fun K hK => ?_)
            case hia10x24 => simp only [List.getElem?_toArray, List.getElem?_cons_zero, List.getElem?_cons_succ]; rfl
            case hwa10x24 => rfl
            have y0 := (k9.cell 0).trans (show _ = some (.slice none 0 0) from rfl); have y1 := (k9.cell 1).trans (show _ = some (.int .i64 0) from rfl); have y2 := k9.frozen 0; have y3 := k9.frozen 1; go_simp; clear y0 y1 y2 y3; refine hK _ _ (((BelowX.refl _ _ _).setHi hxp9 0 _).setHi hxp9 1 _) ?_; replace hc := (hc.far (p := ⟨p9, 0, none⟩) (by simp <;> omega) (.slice A7 n7 c7)).far (p := ⟨p9, 1, none⟩) (by simp <;> omega) (.int .i64 a7); replace o1 := own_setNe (own_setNe o1 k9 (by decide) 0 (.slice A7 n7 c7)) (k9.set_ 0 (.slice A7 n7 c7)) (by decide) 1 (.int .i64 a7); replace ho := OwU.far (OwU.far ho k9 (by decide) 0 (.slice A7 n7 c7)) (k9.set_ 0 (.slice A7 n7 c7)) (by decide) 1 (.int .i64 a7); replace hv := OwV.setOut (a := ⟨p9, 1, none⟩) (by simp <;> omega) (OwV.setOut (a := ⟨p9, 0, none⟩) (by simp <;> omega) hv (.slice A7 n7 c7)) (.int .i64 a7); replace k10 := (k10.far (p := ⟨p9, 0, none⟩) (fun e => Blk.ne_ k10 k9 (by decide) e) (.slice A7 n7 c7)).far (p := ⟨p9, 1, none⟩) (fun e => Blk.ne_ k10 k9 (by decide) e) (.int .i64 a7); replace k9 : Blk _ p9 70 #[.slice A7 n7 c7, .int .i64 a7] := (k9.set_ 0 (.slice A7 n7 c7)).set_ 1 (.int .i64 a7); replace hB := setHiB (setHiB hB (show w.heap.size ≤ p9 by omega) 0 (.slice A7 n7 c7)) (show w.heap.size ≤ p9 by omega) 1 (.int .i64 a7); replace hBx : B_ ≤ ((x.setCell ⟨p9, 0, none⟩ (.slice A7 n7 c7)).setCell ⟨p9, 1, none⟩ (.int .i64 a7)).heap.size := (by simpa using hBx); generalize hw_ : (x.setCell ⟨p9, 0, none⟩ (.slice A7 n7 c7)).setCell ⟨p9, 1, none⟩ (.int .i64 a7) = x at *; clear hw_; clear X0 X1; have X0 : ∀ W, BelowX B_ B_ x W → W.cell? ⟨pc, 0, none⟩ = some (.slice A1 l.length c1) := fun W h => ((hc.belowx h hpB (by omega)).cell 0).trans rfl; have X1 : ∀ W, BelowX B_ B_ x W → W.cell? ⟨pc, 1, none⟩ = some (.int .i64 (q : Int)) := fun W h => ((hc.belowx h hpB (by omega)).cell 1).trans rfl
            try simp only [Act.put, List.setIfInBounds_toArray, List.set_cons_zero, List.set_cons_succ]
            refine bx_step (i := 11) (oi := ?oia11x25) (by kernel_rfl) ?hia11x25 ?hwa11x25 (fun K hK => ?_)
            case hia11x25 => simp only [List.getElem?_toArray, List.getElem?_cons_zero, List.getElem?_cons_succ]; rfl
            case hwa11x25 => rfl
            have y0 := (k10.cell 0).trans (show _ = some (.int .u64 0) from rfl); have y1 := (k10.cell 1).trans (show _ = some (.slice none 0 0) from rfl); have y2 := k10.frozen 0; have y3 := k10.frozen 1; go_simp; clear y0 y1 y2 y3; refine hK _ _ (((BelowX.refl _ _ _).setHi hxp10 0 _).setHi hxp10 1 _) ?_; replace hc := (hc.far (p := ⟨p10, 0, none⟩) (by simp <;> omega) (.int .u64 (bs : Int))).far (p := ⟨p10, 1, none⟩) (by simp <;> omega) (.slice A5 S.size c5); replace o1 := own_setNe (own_setNe o1 k10 (by decide) 0 (.int .u64 (bs : Int))) (k10.set_ 0 (.int .u64 (bs : Int))) (by decide) 1 (.slice A5 S.size c5); replace ho := OwU.far (OwU.far ho k10 (by decide) 0 (.int .u64 (bs : Int))) (k10.set_ 0 (.int .u64 (bs : Int))) (by decide) 1 (.slice A5 S.size c5); replace hv := OwV.setOut (a := ⟨p10, 1, none⟩) (by simp <;> omega) (OwV.setOut (a := ⟨p10, 0, none⟩) (by simp <;> omega) hv (.int .u64 (bs : Int))) (.slice A5 S.size c5); replace k9 := (k9.far (p := ⟨p10, 0, none⟩) (fun e => Blk.ne_ k9 k10 (by decide) e) (.int .u64 (bs : Int))).far (p := ⟨p10, 1, none⟩) (fun e => Blk.ne_ k9 k10 (by decide) e) (.slice A5 S.size c5); replace k10 : Blk _ p10 75 #[.int .u64 (bs : Int), .slice A5 S.size c5] := (k10.set_ 0 (.int .u64 (bs : Int))).set_ 1 (.slice A5 S.size c5); replace hB := setHiB (setHiB hB (show w.heap.size ≤ p10 by omega) 0 (.int .u64 (bs : Int))) (show w.heap.size ≤ p10 by omega) 1 (.slice A5 S.size c5); replace hBx : B_ ≤ ((x.setCell ⟨p10, 0, none⟩ (.int .u64 (bs : Int))).setCell ⟨p10, 1, none⟩ (.slice A5 S.size c5)).heap.size := (by simpa using hBx); generalize hw_ : (x.setCell ⟨p10, 0, none⟩ (.int .u64 (bs : Int))).setCell ⟨p10, 1, none⟩ (.slice A5 S.size c5) = x at *; clear hw_; clear X0 X1; have X0 : ∀ W, BelowX B_ B_ x W → W.cell? ⟨pc, 0, none⟩ = some (.slice A1 l.length c1) := fun W h => ((hc.belowx h hpB (by omega)).cell 0).trans rfl; have X1 : ∀ W, BelowX B_ B_ x W → W.cell? ⟨pc, 1, none⟩ = some (.int .i64 (q : Int)) := fun W h => ((hc.belowx h hpB (by omega)).cell 1).trans rfl
            try simp only [Act.put, List.setIfInBounds_toArray, List.set_cons_zero, List.set_cons_succ]
            refine bx_take (i := 12) (oi := ?oia12x26) (v := ?va12x26) ?hia12x26 (by kernel_rfl) (by kernel_rfl) (by kernel_rfl) hQ ?hwa12x26 ?hya12x26 ?resta12x26
            case hia12x26 => simp only [List.getElem?_toArray, List.getElem?_cons_zero, List.getElem?_cons_succ]; rfl
            case hwa12x26 => rfl
            case hya12x26 => intro W hW; go_simp; with_reducible rfl
            simp only [Act.put, List.setIfInBounds_toArray, List.set_cons_zero, List.set_cons_succ]
            refine wpAnyH_done (by kernel_rfl) ?_ _
            simp only [NoP]
            go_wp2_with fail
            go_meet
            case rel => exact ⟨p9, p10, B_, A5, c5, rfl, rfl, rfl, by omega, by omega, by omega, k9, k10, ho, hcap, hc, o1, hv, hB⟩
          · go_simp
            have b := Ext.al x (.cells #[.int .u64 0, .slice none 0 0] 75); have hxp10 := hBx; replace hc := hc.below b hc.lt; replace o1 := own_call o1 b; replace hv := hv.call b; (try replace k9 := k9.below b k9.lt); (try replace k10 := k10.below b k10.lt); (try replace ho := ho.call b); replace hB := hB.trans (b.mono hB.size); have bx := BelowX.of (Below.mono b hBx) B_; replace hBx := Nat.le_trans hBx b.size; have k10 := Blk.new x 75 #[.int .u64 0, .slice none 0 0]; refine hK _ _ bx ?_; clear b bx; generalize hg_ : x.heap.size = p10 at *; clear hg_; generalize hw_ : x.alloc (.cells #[.int .u64 0, .slice none 0 0] 75) = x at *; clear hw_; clear X0 X1; have X0 : ∀ W, BelowX B_ B_ x W → W.cell? ⟨pc, 0, none⟩ = some (.slice A1 l.length c1) := fun W h => ((hc.belowx h hpB (by omega)).cell 0).trans rfl; have X1 : ∀ W, BelowX B_ B_ x W → W.cell? ⟨pc, 1, none⟩ = some (.int .i64 (q : Int)) := fun W h => ((hc.belowx h hpB (by omega)).cell 1).trans rfl
            try simp only [Act.put, List.setIfInBounds_toArray, List.set_cons_zero, List.set_cons_succ]
            refine bx_step (i := 3) (oi := ?oia3x27) (by kernel_rfl) ?hia3x27 ?hwa3x27 (fun K hK => ?_)
            case hia3x27 => simp only [List.getElem?_toArray, List.getElem?_cons_zero, List.getElem?_cons_succ]; rfl
            case hwa3x27 => rfl
            go_simp
            refine (HU.out _ (own_rd o1)).mono ?_; rintro e x ⟨A5, c5, rfl, ho, hcap, b⟩; replace ho := ho.low (show Bl ≤ _ from by omega); replace hc := hc.below b hc.lt; replace o1 := own_call o1 b; replace hv := hv.call b; (try replace k9 := k9.below b k9.lt); (try replace k10 := k10.below b k10.lt); replace hB := hB.trans (b.mono hB.size); have bx := BelowX.of (Below.mono b hBx) B_; replace hBx := Nat.le_trans hBx b.size; refine hK _ _ bx ?_; clear b bx; clear X0 X1; have X0 : ∀ W, BelowX B_ B_ x W → W.cell? ⟨pc, 0, none⟩ = some (.slice A1 l.length c1) := fun W h => ((hc.belowx h hpB (by omega)).cell 0).trans rfl; have X1 : ∀ W, BelowX B_ B_ x W → W.cell? ⟨pc, 1, none⟩ = some (.int .i64 (q : Int)) := fun W h => ((hc.belowx h hpB (by omega)).cell 1).trans rfl
            try simp only [Act.put, List.setIfInBounds_toArray, List.set_cons_zero, List.set_cons_succ]
            refine bx_take (i := 4) (oi := ?oia4x28) (v := ?va4x28) ?hia4x28 (by kernel_rfl) (by kernel_rfl) (by kernel_rfl) hQ ?hwa4x28 ?hya4x28 ?resta4x28
            case hia4x28 => simp only [List.getElem?_toArray, List.getElem?_cons_zero, List.getElem?_cons_succ]; rfl
            case hwa4x28 => rfl
            case hya4x28 => intro W hW; go_simp; with_reducible rfl
            simp only [Act.put, List.setIfInBounds_toArray, List.set_cons_zero, List.set_cons_succ]
            refine bx_take (i := 5) (oi := ?oia5x29) (v := ?va5x29) ?hia5x29 (by kernel_rfl) (by kernel_rfl) (by kernel_rfl) hQ ?hwa5x29 ?hya5x29 ?resta5x29
            case hia5x29 => simp only [List.getElem?_toArray, List.getElem?_cons_zero, List.getElem?_cons_succ]; rfl
            case hwa5x29 => rfl
            case hya5x29 => intro W hW; go_simp; with_reducible rfl
            simp only [Act.put, List.setIfInBounds_toArray, List.set_cons_zero, List.set_cons_succ]
            refine bx_take (i := 6) (oi := ?oia6x30) (v := ?va6x30) ?hia6x30 (by kernel_rfl) (by kernel_rfl) (by kernel_rfl) hQ ?hwa6x30 ?hya6x30 ?resta6x30
            case hia6x30 => simp only [List.getElem?_toArray, List.getElem?_cons_zero, List.getElem?_cons_succ]; rfl
            case hwa6x30 => rfl
            case hya6x30 => intro W hW; go_simp; with_reducible rfl
            simp only [Act.put, List.setIfInBounds_toArray, List.set_cons_zero, List.set_cons_succ]
            refine bx_take (i := 7) (oi := ?oia7x31) (v := ?va7x31) ?hia7x31 (by kernel_rfl) (by kernel_rfl) (by kernel_rfl) hQ ?hwa7x31 ?hya7x31 ?resta7x31
            case hia7x31 => simp only [List.getElem?_toArray, List.getElem?_cons_zero, List.getElem?_cons_succ]; rfl
            case hwa7x31 => rfl
            case hya7x31 => intro W hW; go_simp; with_reducible rfl
            simp only [Act.put, List.setIfInBounds_toArray, List.set_cons_zero, List.set_cons_succ]
            refine bx_step (i := 10) (oi := ?oia10x32) (by kernel_rfl) ?hia10x32 ?hwa10x32 (fun K hK => ?_)
            case hia10x32 => simp only [List.getElem?_toArray, List.getElem?_cons_zero, List.getElem?_cons_succ]; rfl
            case hwa10x32 => rfl
            have y0 := (k9.cell 0).trans (show _ = some (.slice none 0 0) from rfl); have y1 := (k9.cell 1).trans (show _ = some (.int .i64 0) from rfl); have y2 := k9.frozen 0; have y3 := k9.frozen 1; go_simp; clear y0 y1 y2 y3; refine hK _ _ (((BelowX.refl _ _ _).setHi hxp9 0 _).setHi hxp9 1 _) ?_; replace hc := (hc.far (p := ⟨p9, 0, none⟩) (by simp <;> omega) (.slice A7 n7 c7)).far (p := ⟨p9, 1, none⟩) (by simp <;> omega) (.int .i64 a7); replace o1 := own_setNe (own_setNe o1 k9 (by decide) 0 (.slice A7 n7 c7)) (k9.set_ 0 (.slice A7 n7 c7)) (by decide) 1 (.int .i64 a7); replace ho := OwU.far (OwU.far ho k9 (by decide) 0 (.slice A7 n7 c7)) (k9.set_ 0 (.slice A7 n7 c7)) (by decide) 1 (.int .i64 a7); replace hv := OwV.setOut (a := ⟨p9, 1, none⟩) (by simp <;> omega) (OwV.setOut (a := ⟨p9, 0, none⟩) (by simp <;> omega) hv (.slice A7 n7 c7)) (.int .i64 a7); replace k10 := (k10.far (p := ⟨p9, 0, none⟩) (fun e => Blk.ne_ k10 k9 (by decide) e) (.slice A7 n7 c7)).far (p := ⟨p9, 1, none⟩) (fun e => Blk.ne_ k10 k9 (by decide) e) (.int .i64 a7); replace k9 : Blk _ p9 70 #[.slice A7 n7 c7, .int .i64 a7] := (k9.set_ 0 (.slice A7 n7 c7)).set_ 1 (.int .i64 a7); replace hB := setHiB (setHiB hB (show w.heap.size ≤ p9 by omega) 0 (.slice A7 n7 c7)) (show w.heap.size ≤ p9 by omega) 1 (.int .i64 a7); replace hBx : B_ ≤ ((x.setCell ⟨p9, 0, none⟩ (.slice A7 n7 c7)).setCell ⟨p9, 1, none⟩ (.int .i64 a7)).heap.size := (by simpa using hBx); generalize hw_ : (x.setCell ⟨p9, 0, none⟩ (.slice A7 n7 c7)).setCell ⟨p9, 1, none⟩ (.int .i64 a7) = x at *; clear hw_; clear X0 X1; have X0 : ∀ W, BelowX B_ B_ x W → W.cell? ⟨pc, 0, none⟩ = some (.slice A1 l.length c1) := fun W h => ((hc.belowx h hpB (by omega)).cell 0).trans rfl; have X1 : ∀ W, BelowX B_ B_ x W → W.cell? ⟨pc, 1, none⟩ = some (.int .i64 (q : Int)) := fun W h => ((hc.belowx h hpB (by omega)).cell 1).trans rfl
            try simp only [Act.put, List.setIfInBounds_toArray, List.set_cons_zero, List.set_cons_succ]
            refine bx_step (i := 11) (oi := ?oia11x33) (by kernel_rfl) ?hia11x33 ?hwa11x33 (fun K hK => ?_)
            case hia11x33 => simp only [List.getElem?_toArray, List.getElem?_cons_zero, List.getElem?_cons_succ]; rfl
            case hwa11x33 => rfl
            have y0 := (k10.cell 0).trans (show _ = some (.int .u64 0) from rfl); have y1 := (k10.cell 1).trans (show _ = some (.slice none 0 0) from rfl); have y2 := k10.frozen 0; have y3 := k10.frozen 1; go_simp; clear y0 y1 y2 y3; refine hK _ _ (((BelowX.refl _ _ _).setHi hxp10 0 _).setHi hxp10 1 _) ?_; replace hc := (hc.far (p := ⟨p10, 0, none⟩) (by simp <;> omega) (.int .u64 (bs : Int))).far (p := ⟨p10, 1, none⟩) (by simp <;> omega) (.slice A5 S.size c5); replace o1 := own_setNe (own_setNe o1 k10 (by decide) 0 (.int .u64 (bs : Int))) (k10.set_ 0 (.int .u64 (bs : Int))) (by decide) 1 (.slice A5 S.size c5); replace ho := OwU.far (OwU.far ho k10 (by decide) 0 (.int .u64 (bs : Int))) (k10.set_ 0 (.int .u64 (bs : Int))) (by decide) 1 (.slice A5 S.size c5); replace hv := OwV.setOut (a := ⟨p10, 1, none⟩) (by simp <;> omega) (OwV.setOut (a := ⟨p10, 0, none⟩) (by simp <;> omega) hv (.int .u64 (bs : Int))) (.slice A5 S.size c5); replace k9 := (k9.far (p := ⟨p10, 0, none⟩) (fun e => Blk.ne_ k9 k10 (by decide) e) (.int .u64 (bs : Int))).far (p := ⟨p10, 1, none⟩) (fun e => Blk.ne_ k9 k10 (by decide) e) (.slice A5 S.size c5); replace k10 : Blk _ p10 75 #[.int .u64 (bs : Int), .slice A5 S.size c5] := (k10.set_ 0 (.int .u64 (bs : Int))).set_ 1 (.slice A5 S.size c5); replace hB := setHiB (setHiB hB (show w.heap.size ≤ p10 by omega) 0 (.int .u64 (bs : Int))) (show w.heap.size ≤ p10 by omega) 1 (.slice A5 S.size c5); replace hBx : B_ ≤ ((x.setCell ⟨p10, 0, none⟩ (.int .u64 (bs : Int))).setCell ⟨p10, 1, none⟩ (.slice A5 S.size c5)).heap.size := (by simpa using hBx); generalize hw_ : (x.setCell ⟨p10, 0, none⟩ (.int .u64 (bs : Int))).setCell ⟨p10, 1, none⟩ (.slice A5 S.size c5) = x at *; clear hw_; clear X0 X1; have X0 : ∀ W, BelowX B_ B_ x W → W.cell? ⟨pc, 0, none⟩ = some (.slice A1 l.length c1) := fun W h => ((hc.belowx h hpB (by omega)).cell 0).trans rfl; have X1 : ∀ W, BelowX B_ B_ x W → W.cell? ⟨pc, 1, none⟩ = some (.int .i64 (q : Int)) := fun W h => ((hc.belowx h hpB (by omega)).cell 1).trans rfl
            try simp only [Act.put, List.setIfInBounds_toArray, List.set_cons_zero, List.set_cons_succ]
            refine bx_take (i := 12) (oi := ?oia12x34) (v := ?va12x34) ?hia12x34 (by kernel_rfl) (by kernel_rfl) (by kernel_rfl) hQ ?hwa12x34 ?hya12x34 ?resta12x34
            case hia12x34 => simp only [List.getElem?_toArray, List.getElem?_cons_zero, List.getElem?_cons_succ]; rfl
            case hwa12x34 => rfl
            case hya12x34 => intro W hW; go_simp; with_reducible rfl
            simp only [Act.put, List.setIfInBounds_toArray, List.set_cons_zero, List.set_cons_succ]
            refine wpAnyH_done (by kernel_rfl) ?_ _
            simp only [NoP]
            go_wp2_with fail
            go_meet
            case rel => exact ⟨p9, p10, B_, A5, c5, rfl, rfl, rfl, by omega, by omega, by omega, k9, k10, ho, hcap, hc, o1, hv, hB⟩
        · go_simp
          have b := Ext.al x (.cells #[.int .u64 0, .slice none 0 0] 75); have hxp10 := hBx; replace hc := hc.below b hc.lt; replace o1 := own_call o1 b; replace hv := hv.call b; (try replace k9 := k9.below b k9.lt); (try replace k10 := k10.below b k10.lt); (try replace ho := ho.call b); replace hB := hB.trans (b.mono hB.size); have bx := BelowX.of (Below.mono b hBx) B_; replace hBx := Nat.le_trans hBx b.size; have k10 := Blk.new x 75 #[.int .u64 0, .slice none 0 0]; refine hK _ _ bx ?_; clear b bx; generalize hg_ : x.heap.size = p10 at *; clear hg_; generalize hw_ : x.alloc (.cells #[.int .u64 0, .slice none 0 0] 75) = x at *; clear hw_; clear X0 X1; have X0 : ∀ W, BelowX B_ B_ x W → W.cell? ⟨pc, 0, none⟩ = some (.slice A1 l.length c1) := fun W h => ((hc.belowx h hpB (by omega)).cell 0).trans rfl; have X1 : ∀ W, BelowX B_ B_ x W → W.cell? ⟨pc, 1, none⟩ = some (.int .i64 (q : Int)) := fun W h => ((hc.belowx h hpB (by omega)).cell 1).trans rfl
          try simp only [Act.put, List.setIfInBounds_toArray, List.set_cons_zero, List.set_cons_succ]
          refine bx_two (i := 3) (j := 8) (oi := ?oia3x35) (oj := ?oja3x35) (by kernel_rfl) ?hia3x35 ?hja3x35 ?hwa3x35 ?hva3x35 (fun K hK => ?_) (fun K hK => ?_)
          case hia3x35 => simp only [List.getElem?_toArray, List.getElem?_cons_zero, List.getElem?_cons_succ]; rfl
          case hja3x35 => simp only [List.getElem?_toArray, List.getElem?_cons_zero, List.getElem?_cons_succ]; rfl
          case hwa3x35 => rfl
          case hva3x35 => rfl
          · go_simp
            refine (HU.out _ (own_rd o1)).mono ?_; rintro e x ⟨A5, c5, rfl, ho, hcap, b⟩; replace ho := ho.low (show Bl ≤ _ from by omega); replace hc := hc.below b hc.lt; replace o1 := own_call o1 b; replace hv := hv.call b; (try replace k9 := k9.below b k9.lt); (try replace k10 := k10.below b k10.lt); replace hB := hB.trans (b.mono hB.size); have bx := BelowX.of (Below.mono b hBx) B_; replace hBx := Nat.le_trans hBx b.size; refine hK _ _ bx ?_; clear b bx; clear X0 X1; have X0 : ∀ W, BelowX B_ B_ x W → W.cell? ⟨pc, 0, none⟩ = some (.slice A1 l.length c1) := fun W h => ((hc.belowx h hpB (by omega)).cell 0).trans rfl; have X1 : ∀ W, BelowX B_ B_ x W → W.cell? ⟨pc, 1, none⟩ = some (.int .i64 (q : Int)) := fun W h => ((hc.belowx h hpB (by omega)).cell 1).trans rfl
            try simp only [Act.put, List.setIfInBounds_toArray, List.set_cons_zero, List.set_cons_succ]
            refine bx_take (i := 4) (oi := ?oia4x36) (v := ?va4x36) ?hia4x36 (by kernel_rfl) (by kernel_rfl) (by kernel_rfl) hQ ?hwa4x36 ?hya4x36 ?resta4x36
            case hia4x36 => simp only [List.getElem?_toArray, List.getElem?_cons_zero, List.getElem?_cons_succ]; rfl
            case hwa4x36 => rfl
            case hya4x36 => intro W hW; go_simp; with_reducible rfl
            simp only [Act.put, List.setIfInBounds_toArray, List.set_cons_zero, List.set_cons_succ]
            refine bx_take (i := 5) (oi := ?oia5x37) (v := ?va5x37) ?hia5x37 (by kernel_rfl) (by kernel_rfl) (by kernel_rfl) hQ ?hwa5x37 ?hya5x37 ?resta5x37
            case hia5x37 => simp only [List.getElem?_toArray, List.getElem?_cons_zero, List.getElem?_cons_succ]; rfl
            case hwa5x37 => rfl
            case hya5x37 => intro W hW; go_simp; with_reducible rfl
            simp only [Act.put, List.setIfInBounds_toArray, List.set_cons_zero, List.set_cons_succ]
            refine bx_take (i := 6) (oi := ?oia6x38) (v := ?va6x38) ?hia6x38 (by kernel_rfl) (by kernel_rfl) (by kernel_rfl) hQ ?hwa6x38 ?hya6x38 ?resta6x38
            case hia6x38 => simp only [List.getElem?_toArray, List.getElem?_cons_zero, List.getElem?_cons_succ]; rfl
            case hwa6x38 => rfl
            case hya6x38 => intro W hW; go_simp; with_reducible rfl
            simp only [Act.put, List.setIfInBounds_toArray, List.set_cons_zero, List.set_cons_succ]
            refine bx_take (i := 7) (oi := ?oia7x39) (v := ?va7x39) ?hia7x39 (by kernel_rfl) (by kernel_rfl) (by kernel_rfl) hQ ?hwa7x39 ?hya7x39 ?resta7x39
            case hia7x39 => simp only [List.getElem?_toArray, List.getElem?_cons_zero, List.getElem?_cons_succ]; rfl
            case hwa7x39 => rfl
            case hya7x39 => intro W hW; go_simp; with_reducible rfl
            simp only [Act.put, List.setIfInBounds_toArray, List.set_cons_zero, List.set_cons_succ]
            refine bx_step (i := 8) (oi := ?oia8x40) (by kernel_rfl) ?hia8x40 ?hwa8x40 (fun K hK => ?_)
            case hia8x40 => simp only [List.getElem?_toArray, List.getElem?_cons_zero, List.getElem?_cons_succ]; rfl
            case hwa8x40 => rfl
            go_simp
            have b := Ext.al x (.cells #[.slice none 0 0, .int .i64 0] 70); have hxp9 := hBx; replace hc := hc.below b hc.lt; replace o1 := own_call o1 b; replace hv := hv.call b; (try replace k9 := k9.below b k9.lt); (try replace k10 := k10.below b k10.lt); (try replace ho := ho.call b); replace hB := hB.trans (b.mono hB.size); have bx := BelowX.of (Below.mono b hBx) B_; replace hBx := Nat.le_trans hBx b.size; have k9 := Blk.new x 70 #[.slice none 0 0, .int .i64 0]; refine hK _ _ bx ?_; clear b bx; generalize hg_ : x.heap.size = p9 at *; clear hg_; generalize hw_ : x.alloc (.cells #[.slice none 0 0, .int .i64 0] 70) = x at *; clear hw_; clear X0 X1; have X0 : ∀ W, BelowX B_ B_ x W → W.cell? ⟨pc, 0, none⟩ = some (.slice A1 l.length c1) := fun W h => ((hc.belowx h hpB (by omega)).cell 0).trans rfl; have X1 : ∀ W, BelowX B_ B_ x W → W.cell? ⟨pc, 1, none⟩ = some (.int .i64 (q : Int)) := fun W h => ((hc.belowx h hpB (by omega)).cell 1).trans rfl
            try simp only [Act.put, List.setIfInBounds_toArray, List.set_cons_zero, List.set_cons_succ]
            refine bx_step (i := 10) (oi := ?oia10x41) (by kernel_rfl) ?hia10x41 ?hwa10x41 (fun K hK => ?_)
            case hia10x41 => simp only [List.getElem?_toArray, List.getElem?_cons_zero, List.getElem?_cons_succ]; rfl
            case hwa10x41 => rfl
            have y0 := (k9.cell 0).trans (show _ = some (.slice none 0 0) from rfl); have y1 := (k9.cell 1).trans (show _ = some (.int .i64 0) from rfl); have y2 := k9.frozen 0; have y3 := k9.frozen 1; go_simp; clear y0 y1 y2 y3; refine hK _ _ (((BelowX.refl _ _ _).setHi hxp9 0 _).setHi hxp9 1 _) ?_; replace hc := (hc.far (p := ⟨p9, 0, none⟩) (by simp <;> omega) (.slice A7 n7 c7)).far (p := ⟨p9, 1, none⟩) (by simp <;> omega) (.int .i64 a7); replace o1 := own_setNe (own_setNe o1 k9 (by decide) 0 (.slice A7 n7 c7)) (k9.set_ 0 (.slice A7 n7 c7)) (by decide) 1 (.int .i64 a7); replace ho := OwU.far (OwU.far ho k9 (by decide) 0 (.slice A7 n7 c7)) (k9.set_ 0 (.slice A7 n7 c7)) (by decide) 1 (.int .i64 a7); replace hv := OwV.setOut (a := ⟨p9, 1, none⟩) (by simp <;> omega) (OwV.setOut (a := ⟨p9, 0, none⟩) (by simp <;> omega) hv (.slice A7 n7 c7)) (.int .i64 a7); replace k10 := (k10.far (p := ⟨p9, 0, none⟩) (fun e => Blk.ne_ k10 k9 (by decide) e) (.slice A7 n7 c7)).far (p := ⟨p9, 1, none⟩) (fun e => Blk.ne_ k10 k9 (by decide) e) (.int .i64 a7); replace k9 : Blk _ p9 70 #[.slice A7 n7 c7, .int .i64 a7] := (k9.set_ 0 (.slice A7 n7 c7)).set_ 1 (.int .i64 a7); replace hB := setHiB (setHiB hB (show w.heap.size ≤ p9 by omega) 0 (.slice A7 n7 c7)) (show w.heap.size ≤ p9 by omega) 1 (.int .i64 a7); replace hBx : B_ ≤ ((x.setCell ⟨p9, 0, none⟩ (.slice A7 n7 c7)).setCell ⟨p9, 1, none⟩ (.int .i64 a7)).heap.size := (by simpa using hBx); generalize hw_ : (x.setCell ⟨p9, 0, none⟩ (.slice A7 n7 c7)).setCell ⟨p9, 1, none⟩ (.int .i64 a7) = x at *; clear hw_; clear X0 X1; have X0 : ∀ W, BelowX B_ B_ x W → W.cell? ⟨pc, 0, none⟩ = some (.slice A1 l.length c1) := fun W h => ((hc.belowx h hpB (by omega)).cell 0).trans rfl; have X1 : ∀ W, BelowX B_ B_ x W → W.cell? ⟨pc, 1, none⟩ = some (.int .i64 (q : Int)) := fun W h => ((hc.belowx h hpB (by omega)).cell 1).trans rfl
            try simp only [Act.put, List.setIfInBounds_toArray, List.set_cons_zero, List.set_cons_succ]
            refine bx_step (i := 11) (oi := ?oia11x42) (by kernel_rfl) ?hia11x42 ?hwa11x42 (fun K hK => ?_)
            case hia11x42 => simp only [List.getElem?_toArray, List.getElem?_cons_zero, List.getElem?_cons_succ]; rfl
            case hwa11x42 => rfl
            have y0 := (k10.cell 0).trans (show _ = some (.int .u64 0) from rfl); have y1 := (k10.cell 1).trans (show _ = some (.slice none 0 0) from rfl); have y2 := k10.frozen 0; have y3 := k10.frozen 1; go_simp; clear y0 y1 y2 y3; refine hK _ _ (((BelowX.refl _ _ _).setHi hxp10 0 _).setHi hxp10 1 _) ?_; replace hc := (hc.far (p := ⟨p10, 0, none⟩) (by simp <;> omega) (.int .u64 (bs : Int))).far (p := ⟨p10, 1, none⟩) (by simp <;> omega) (.slice A5 S.size c5); replace o1 := own_setNe (own_setNe o1 k10 (by decide) 0 (.int .u64 (bs : Int))) (k10.set_ 0 (.int .u64 (bs : Int))) (by decide) 1 (.slice A5 S.size c5); replace ho := OwU.far (OwU.far ho k10 (by decide) 0 (.int .u64 (bs : Int))) (k10.set_ 0 (.int .u64 (bs : Int))) (by decide) 1 (.slice A5 S.size c5); replace hv := OwV.setOut (a := ⟨p10, 1, none⟩) (by simp <;> omega) (OwV.setOut (a := ⟨p10, 0, none⟩) (by simp <;> omega) hv (.int .u64 (bs : Int))) (.slice A5 S.size c5); replace k9 := (k9.far (p := ⟨p10, 0, none⟩) (fun e => Blk.ne_ k9 k10 (by decide) e) (.int .u64 (bs : Int))).far (p := ⟨p10, 1, none⟩) (fun e => Blk.ne_ k9 k10 (by decide) e) (.slice A5 S.size c5); replace k10 : Blk _ p10 75 #[.int .u64 (bs : Int), .slice A5 S.size c5] := (k10.set_ 0 (.int .u64 (bs : Int))).set_ 1 (.slice A5 S.size c5); replace hB := setHiB (setHiB hB (show w.heap.size ≤ p10 by omega) 0 (.int .u64 (bs : Int))) (show w.heap.size ≤ p10 by omega) 1 (.slice A5 S.size c5); replace hBx : B_ ≤ ((x.setCell ⟨p10, 0, none⟩ (.int .u64 (bs : Int))).setCell ⟨p10, 1, none⟩ (.slice A5 S.size c5)).heap.size := (by simpa using hBx); generalize hw_ : (x.setCell ⟨p10, 0, none⟩ (.int .u64 (bs : Int))).setCell ⟨p10, 1, none⟩ (.slice A5 S.size c5) = x at *; clear hw_; clear X0 X1; have X0 : ∀ W, BelowX B_ B_ x W → W.cell? ⟨pc, 0, none⟩ = some (.slice A1 l.length c1) := fun W h => ((hc.belowx h hpB (by omega)).cell 0).trans rfl; have X1 : ∀ W, BelowX B_ B_ x W → W.cell? ⟨pc, 1, none⟩ = some (.int .i64 (q : Int)) := fun W h => ((hc.belowx h hpB (by omega)).cell 1).trans rfl
            try simp only [Act.put, List.setIfInBounds_toArray, List.set_cons_zero, List.set_cons_succ]
            refine bx_take (i := 12) (oi := ?oia12x43) (v := ?va12x43) ?hia12x43 (by kernel_rfl) (by kernel_rfl) (by kernel_rfl) hQ ?hwa12x43 ?hya12x43 ?resta12x43
            case hia12x43 => simp only [List.getElem?_toArray, List.getElem?_cons_zero, List.getElem?_cons_succ]; rfl
            case hwa12x43 => rfl
            case hya12x43 => intro W hW; go_simp; with_reducible rfl
            simp only [Act.put, List.setIfInBounds_toArray, List.set_cons_zero, List.set_cons_succ]
            refine wpAnyH_done (by kernel_rfl) ?_ _
            simp only [NoP]
            go_wp2_with fail
            go_meet
            case rel => exact ⟨p9, p10, B_, A5, c5, rfl, rfl, rfl, by omega, by omega, by omega, k9, k10, ho, hcap, hc, o1, hv, hB⟩
          · go_simp
            have b := Ext.al x (.cells #[.slice none 0 0, .int .i64 0] 70); have hxp9 := hBx; replace hc := hc.below b hc.lt; replace o1 := own_call o1 b; replace hv := hv.call b; (try replace k9 := k9.below b k9.lt); (try replace k10 := k10.below b k10.lt); (try replace ho := ho.call b); replace hB := hB.trans (b.mono hB.size); have bx := BelowX.of (Below.mono b hBx) B_; replace hBx := Nat.le_trans hBx b.size; have k9 := Blk.new x 70 #[.slice none 0 0, .int .i64 0]; refine hK _ _ bx ?_; clear b bx; generalize hg_ : x.heap.size = p9 at *; clear hg_; generalize hw_ : x.alloc (.cells #[.slice none 0 0, .int .i64 0] 70) = x at *; clear hw_; clear X0 X1; have X0 : ∀ W, BelowX B_ B_ x W → W.cell? ⟨pc, 0, none⟩ = some (.slice A1 l.length c1) := fun W h => ((hc.belowx h hpB (by omega)).cell 0).trans rfl; have X1 : ∀ W, BelowX B_ B_ x W → W.cell? ⟨pc, 1, none⟩ = some (.int .i64 (q : Int)) := fun W h => ((hc.belowx h hpB (by omega)).cell 1).trans rfl
            try simp only [Act.put, List.setIfInBounds_toArray, List.set_cons_zero, List.set_cons_succ]
            refine bx_step (i := 3) (oi := ?oia3x44) (by kernel_rfl) ?hia3x44 ?hwa3x44 (fun K hK => ?_)
            case hia3x44 => simp only [List.getElem?_toArray, List.getElem?_cons_zero, List.getElem?_cons_succ]; rfl
            case hwa3x44 => rfl
            go_simp
            refine (HU.out _ (own_rd o1)).mono ?_; rintro e x ⟨A5, c5, rfl, ho, hcap, b⟩; replace ho := ho.low (show Bl ≤ _ from by omega); replace hc := hc.below b hc.lt; replace o1 := own_call o1 b; replace hv := hv.call b; (try replace k9 := k9.below b k9.lt); (try replace k10 := k10.below b k10.lt); replace hB := hB.trans (b.mono hB.size); have bx := BelowX.of (Below.mono b hBx) B_; replace hBx := Nat.le_trans hBx b.size; refine hK _ _ bx ?_; clear b bx; clear X0 X1; have X0 : ∀ W, BelowX B_ B_ x W → W.cell? ⟨pc, 0, none⟩ = some (.slice A1 l.length c1) := fun W h => ((hc.belowx h hpB (by omega)).cell 0).trans rfl; have X1 : ∀ W, BelowX B_ B_ x W → W.cell? ⟨pc, 1, none⟩ = some (.int .i64 (q : Int)) := fun W h => ((hc.belowx h hpB (by omega)).cell 1).trans rfl
            try simp only [Act.put, List.setIfInBounds_toArray, List.set_cons_zero, List.set_cons_succ]
            refine bx_take (i := 4) (oi := ?oia4x45) (v := ?va4x45) ?hia4x45 (by kernel_rfl) (by kernel_rfl) (by kernel_rfl) hQ ?hwa4x45 ?hya4x45 ?resta4x45
            case hia4x45 => simp only [List.getElem?_toArray, List.getElem?_cons_zero, List.getElem?_cons_succ]; rfl
            case hwa4x45 => rfl
            case hya4x45 => intro W hW; go_simp; with_reducible rfl
            simp only [Act.put, List.setIfInBounds_toArray, List.set_cons_zero, List.set_cons_succ]
            refine bx_take (i := 5) (oi := ?oia5x46) (v := ?va5x46) ?hia5x46 (by kernel_rfl) (by kernel_rfl) (by kernel_rfl) hQ ?hwa5x46 ?hya5x46 ?resta5x46
            case hia5x46 => simp only [List.getElem?_toArray, List.getElem?_cons_zero, List.getElem?_cons_succ]; rfl
            case hwa5x46 => rfl
            case hya5x46 => intro W hW; go_simp; with_reducible rfl
            simp only [Act.put, List.setIfInBounds_toArray, List.set_cons_zero, List.set_cons_succ]
            refine bx_take (i := 6) (oi := ?oia6x47) (v := ?va6x47) ?hia6x47 (by kernel_rfl) (by kernel_rfl) (by kernel_rfl) hQ ?hwa6x47 ?hya6x47 ?resta6x47
            case hia6x47 => simp only [List.getElem?_toArray, List.getElem?_cons_zero, List.getElem?_cons_succ]; rfl
            case hwa6x47 => rfl
            case hya6x47 => intro W hW; go_simp; with_reducible rfl
            simp only [Act.put, List.setIfInBounds_toArray, List.set_cons_zero, List.set_cons_succ]
            refine bx_take (i := 7) (oi := ?oia7x48) (v := ?va7x48) ?hia7x48 (by kernel_rfl) (by kernel_rfl) (by kernel_rfl) hQ ?hwa7x48 ?hya7x48 ?resta7x48
            case hia7x48 => simp only [List.getElem?_toArray, List.getElem?_cons_zero, List.getElem?_cons_succ]; rfl
            case hwa7x48 => rfl
            case hya7x48 => intro W hW; go_simp; with_reducible rfl
            simp only [Act.put, List.setIfInBounds_toArray, List.set_cons_zero, List.set_cons_succ]
            refine bx_step (i := 10) (oi := ?oia10x49) (by kernel_rfl) ?hia10x49 ?hwa10x49 (fun K hK => ?_)
            case hia10x49 => simp only [List.getElem?_toArray, List.getElem?_cons_zero, List.getElem?_cons_succ]; rfl
            case hwa10x49 => rfl
            have y0 := (k9.cell 0).trans (show _ = some (.slice none 0 0) from rfl); have y1 := (k9.cell 1).trans (show _ = some (.int .i64 0) from rfl); have y2 := k9.frozen 0; have y3 := k9.frozen 1; go_simp; clear y0 y1 y2 y3; refine hK _ _ (((BelowX.refl _ _ _).setHi hxp9 0 _).setHi hxp9 1 _) ?_; replace hc := (hc.far (p := ⟨p9, 0, none⟩) (by simp <;> omega) (.slice A7 n7 c7)).far (p := ⟨p9, 1, none⟩) (by simp <;> omega) (.int .i64 a7); replace o1 := own_setNe (own_setNe o1 k9 (by decide) 0 (.slice A7 n7 c7)) (k9.set_ 0 (.slice A7 n7 c7)) (by decide) 1 (.int .i64 a7); replace ho := OwU.far (OwU.far ho k9 (by decide) 0 (.slice A7 n7 c7)) (k9.set_ 0 (.slice A7 n7 c7)) (by decide) 1 (.int .i64 a7); replace hv := OwV.setOut (a := ⟨p9, 1, none⟩) (by simp <;> omega) (OwV.setOut (a := ⟨p9, 0, none⟩) (by simp <;> omega) hv (.slice A7 n7 c7)) (.int .i64 a7); replace k10 := (k10.far (p := ⟨p9, 0, none⟩) (fun e => Blk.ne_ k10 k9 (by decide) e) (.slice A7 n7 c7)).far (p := ⟨p9, 1, none⟩) (fun e => Blk.ne_ k10 k9 (by decide) e) (.int .i64 a7); replace k9 : Blk _ p9 70 #[.slice A7 n7 c7, .int .i64 a7] := (k9.set_ 0 (.slice A7 n7 c7)).set_ 1 (.int .i64 a7); replace hB := setHiB (setHiB hB (show w.heap.size ≤ p9 by omega) 0 (.slice A7 n7 c7)) (show w.heap.size ≤ p9 by omega) 1 (.int .i64 a7); replace hBx : B_ ≤ ((x.setCell ⟨p9, 0, none⟩ (.slice A7 n7 c7)).setCell ⟨p9, 1, none⟩ (.int .i64 a7)).heap.size := (by simpa using hBx); generalize hw_ : (x.setCell ⟨p9, 0, none⟩ (.slice A7 n7 c7)).setCell ⟨p9, 1, none⟩ (.int .i64 a7) = x at *; clear hw_; clear X0 X1; have X0 : ∀ W, BelowX B_ B_ x W → W.cell? ⟨pc, 0, none⟩ = some (.slice A1 l.length c1) := fun W h => ((hc.belowx h hpB (by omega)).cell 0).trans rfl; have X1 : ∀ W, BelowX B_ B_ x W → W.cell? ⟨pc, 1, none⟩ = some (.int .i64 (q : Int)) := fun W h => ((hc.belowx h hpB (by omega)).cell 1).trans rfl
            try simp only [Act.put, List.setIfInBounds_toArray, List.set_cons_zero, List.set_cons_succ]
            refine bx_step (i := 11) (oi := ?oia11x50) (by kernel_rfl) ?hia11x50 ?hwa11x50 (fun K hK => ?_)
            case hia11x50 => simp only [List.getElem?_toArray, List.getElem?_cons_zero, List.getElem?_cons_succ]; rfl
            case hwa11x50 => rfl
            have y0 := (k10.cell 0).trans (show _ = some (.int .u64 0) from rfl); have y1 := (k10.cell 1).trans (show _ = some (.slice none 0 0) from rfl); have y2 := k10.frozen 0; have y3 := k10.frozen 1; go_simp; clear y0 y1 y2 y3; refine hK _ _ (((BelowX.refl _ _ _).setHi hxp10 0 _).setHi hxp10 1 _) ?_; replace hc := (hc.far (p := ⟨p10, 0, none⟩) (by simp <;> omega) (.int .u64 (bs : Int))).far (p := ⟨p10, 1, none⟩) (by simp <;> omega) (.slice A5 S.size c5); replace o1 := own_setNe (own_setNe o1 k10 (by decide) 0 (.int .u64 (bs : Int))) (k10.set_ 0 (.int .u64 (bs : Int))) (by decide) 1 (.slice A5 S.size c5); replace ho := OwU.far (OwU.far ho k10 (by decide) 0 (.int .u64 (bs : Int))) (k10.set_ 0 (.int .u64 (bs : Int))) (by decide) 1 (.slice A5 S.size c5); replace hv := OwV.setOut (a := ⟨p10, 1, none⟩) (by simp <;> omega) (OwV.setOut (a := ⟨p10, 0, none⟩) (by simp <;> omega) hv (.int .u64 (bs : Int))) (.slice A5 S.size c5); replace k9 := (k9.far (p := ⟨p10, 0, none⟩) (fun e => Blk.ne_ k9 k10 (by decide) e) (.int .u64 (bs : Int))).far (p := ⟨p10, 1, none⟩) (fun e => Blk.ne_ k9 k10 (by decide) e) (.slice A5 S.size c5); replace k10 : Blk _ p10 75 #[.int .u64 (bs : Int), .slice A5 S.size c5] := (k10.set_ 0 (.int .u64 (bs : Int))).set_ 1 (.slice A5 S.size c5); replace hB := setHiB (setHiB hB (show w.heap.size ≤ p10 by omega) 0 (.int .u64 (bs : Int))) (show w.heap.size ≤ p10 by omega) 1 (.slice A5 S.size c5); replace hBx : B_ ≤ ((x.setCell ⟨p10, 0, none⟩ (.int .u64 (bs : Int))).setCell ⟨p10, 1, none⟩ (.slice A5 S.size c5)).heap.size := (by simpa using hBx); generalize hw_ : (x.setCell ⟨p10, 0, none⟩ (.int .u64 (bs : Int))).setCell ⟨p10, 1, none⟩ (.slice A5 S.size c5) = x at *; clear hw_; clear X0 X1; have X0 : ∀ W, BelowX B_ B_ x W → W.cell? ⟨pc, 0, none⟩ = some (.slice A1 l.length c1) := fun W h => ((hc.belowx h hpB (by omega)).cell 0).trans rfl; have X1 : ∀ W, BelowX B_ B_ x W → W.cell? ⟨pc, 1, none⟩ = some (.int .i64 (q : Int)) := fun W h => ((hc.belowx h hpB (by omega)).cell 1).trans rfl
            try simp only [Act.put, List.setIfInBounds_toArray, List.set_cons_zero, List.set_cons_succ]
            refine bx_take (i := 12) (oi := ?oia12x51) (v := ?va12x51) ?hia12x51 (by kernel_rfl) (by kernel_rfl) (by kernel_rfl) hQ ?hwa12x51 ?hya12x51 ?resta12x51
            case hia12x51 => simp only [List.getElem?_toArray, List.getElem?_cons_zero, List.getElem?_cons_succ]; rfl
            case hwa12x51 => rfl
            case hya12x51 => intro W hW; go_simp; with_reducible rfl
            simp only [Act.put, List.setIfInBounds_toArray, List.set_cons_zero, List.set_cons_succ]
            refine wpAnyH_done (by kernel_rfl) ?_ _
            simp only [NoP]
            go_wp2_with fail
            go_meet
            case rel => exact ⟨p9, p10, B_, A5, c5, rfl, rfl, rfl, by omega, by omega, by omega, k9, k10, ho, hcap, hc, o1, hv, hB⟩
      · go_simp
        have b := Ext.al x (.cells #[.slice none 0 0, .int .i64 0] 70); have hxp9 := hBx; replace hc := hc.below b hc.lt; replace o1 := own_call o1 b; replace hv := hv.call b; (try replace k9 := k9.below b k9.lt); (try replace k10 := k10.below b k10.lt); (try replace ho := ho.call b); replace hB := hB.trans (b.mono hB.size); have bx := BelowX.of (Below.mono b hBx) B_; replace hBx := Nat.le_trans hBx b.size; have k9 := Blk.new x 70 #[.slice none 0 0, .int .i64 0]; refine hK _ _ bx ?_; clear b bx; generalize hg_ : x.heap.size = p9 at *; clear hg_; generalize hw_ : x.alloc (.cells #[.slice none 0 0, .int .i64 0] 70) = x at *; clear hw_; clear X0 X1; have X0 : ∀ W, BelowX B_ B_ x W → W.cell? ⟨pc, 0, none⟩ = some (.slice A1 l.length c1) := fun W h => ((hc.belowx h hpB (by omega)).cell 0).trans rfl; have X1 : ∀ W, BelowX B_ B_ x W → W.cell? ⟨pc, 1, none⟩ = some (.int .i64 (q : Int)) := fun W h => ((hc.belowx h hpB (by omega)).cell 1).trans rfl
        try simp only [Act.put, List.setIfInBounds_toArray, List.set_cons_zero, List.set_cons_succ]
        refine bx_two (i := 2) (j := 9) (oi := ?oia2x52) (oj := ?oja2x52) (by kernel_rfl) ?hia2x52 ?hja2x52 ?hwa2x52 ?hva2x52 (fun K hK => ?_) (fun K hK => ?_)
        case hia2x52 => simp only [List.getElem?_toArray, List.getElem?_cons_zero, List.getElem?_cons_succ]; rfl
        case hja2x52 => simp only [List.getElem?_toArray, List.getElem?_cons_zero, List.getElem?_cons_succ]; rfl
        case hwa2x52 => rfl
        case hva2x52 => rfl
        · go_simp
          refine (HBC.out _).mono ?_; rintro e wq ⟨rfl, rfl⟩; refine hK _ _ (BelowX.refl _ _ _) ?_
          try simp only [Act.put, List.setIfInBounds_toArray, List.set_cons_zero, List.set_cons_succ]
          refine bx_two (i := 3) (j := 9) (oi := ?oia3x53) (oj := ?oja3x53) (by kernel_rfl) ?hia3x53 ?hja3x53 ?hwa3x53 ?hva3x53 (fun K hK => ?_) (fun K hK => ?_)
          case hia3x53 => simp only [List.getElem?_toArray, List.getElem?_cons_zero, List.getElem?_cons_succ]; rfl
          case hja3x53 => simp only [List.getElem?_toArray, List.getElem?_cons_zero, List.getElem?_cons_succ]; rfl
          case hwa3x53 => rfl
          case hva3x53 => rfl
          · go_simp
            refine (HU.out _ (own_rd o1)).mono ?_; rintro e x ⟨A5, c5, rfl, ho, hcap, b⟩; replace ho := ho.low (show Bl ≤ _ from by omega); replace hc := hc.below b hc.lt; replace o1 := own_call o1 b; replace hv := hv.call b; (try replace k9 := k9.below b k9.lt); (try replace k10 := k10.below b k10.lt); replace hB := hB.trans (b.mono hB.size); have bx := BelowX.of (Below.mono b hBx) B_; replace hBx := Nat.le_trans hBx b.size; refine hK _ _ bx ?_; clear b bx; clear X0 X1; have X0 : ∀ W, BelowX B_ B_ x W → W.cell? ⟨pc, 0, none⟩ = some (.slice A1 l.length c1) := fun W h => ((hc.belowx h hpB (by omega)).cell 0).trans rfl; have X1 : ∀ W, BelowX B_ B_ x W → W.cell? ⟨pc, 1, none⟩ = some (.int .i64 (q : Int)) := fun W h => ((hc.belowx h hpB (by omega)).cell 1).trans rfl
            try simp only [Act.put, List.setIfInBounds_toArray, List.set_cons_zero, List.set_cons_succ]
            refine bx_take (i := 4) (oi := ?oia4x54) (v := ?va4x54) ?hia4x54 (by kernel_rfl) (by kernel_rfl) (by kernel_rfl) hQ ?hwa4x54 ?hya4x54 ?resta4x54
            case hia4x54 => simp only [List.getElem?_toArray, List.getElem?_cons_zero, List.getElem?_cons_succ]; rfl
            case hwa4x54 => rfl
            case hya4x54 => intro W hW; go_simp; with_reducible rfl
            simp only [Act.put, List.setIfInBounds_toArray, List.set_cons_zero, List.set_cons_succ]
            refine bx_take (i := 5) (oi := ?oia5x55) (v := ?va5x55) ?hia5x55 (by kernel_rfl) (by kernel_rfl) (by kernel_rfl) hQ ?hwa5x55 ?hya5x55 ?resta5x55
            case hia5x55 => simp only [List.getElem?_toArray, List.getElem?_cons_zero, List.getElem?_cons_succ]; rfl
            case hwa5x55 => rfl
            case hya5x55 => intro W hW; go_simp; with_reducible rfl
            simp only [Act.put, List.setIfInBounds_toArray, List.set_cons_zero, List.set_cons_succ]
            refine bx_take (i := 6) (oi := ?oia6x56) (v := ?va6x56) ?hia6x56 (by kernel_rfl) (by kernel_rfl) (by kernel_rfl) hQ ?hwa6x56 ?hya6x56 ?resta6x56
            case hia6x56 => simp only [List.getElem?_toArray, List.getElem?_cons_zero, List.getElem?_cons_succ]; rfl
            case hwa6x56 => rfl
            case hya6x56 => intro W hW; go_simp; with_reducible rfl
            simp only [Act.put, List.setIfInBounds_toArray, List.set_cons_zero, List.set_cons_succ]
            refine bx_take (i := 7) (oi := ?oia7x57) (v := ?va7x57) ?hia7x57 (by kernel_rfl) (by kernel_rfl) (by kernel_rfl) hQ ?hwa7x57 ?hya7x57 ?resta7x57
            case hia7x57 => simp only [List.getElem?_toArray, List.getElem?_cons_zero, List.getElem?_cons_succ]; rfl
            case hwa7x57 => rfl
            case hya7x57 => intro W hW; go_simp; with_reducible rfl
            simp only [Act.put, List.setIfInBounds_toArray, List.set_cons_zero, List.set_cons_succ]
            refine bx_step (i := 9) (oi := ?oia9x58) (by kernel_rfl) ?hia9x58 ?hwa9x58 (fun K hK => ?_)
            case hia9x58 => simp only [List.getElem?_toArray, List.getElem?_cons_zero, List.getElem?_cons_succ]; rfl
            case hwa9x58 => rfl
            go_simp
            have b := Ext.al x (.cells #[.int .u64 0, .slice none 0 0] 75); have hxp10 := hBx; replace hc := hc.below b hc.lt; replace o1 := own_call o1 b; replace hv := hv.call b; (try replace k9 := k9.below b k9.lt); (try replace k10 := k10.below b k10.lt); (try replace ho := ho.call b); replace hB := hB.trans (b.mono hB.size); have bx := BelowX.of (Below.mono b hBx) B_; replace hBx := Nat.le_trans hBx b.size; have k10 := Blk.new x 75 #[.int .u64 0, .slice none 0 0]; refine hK _ _ bx ?_; clear b bx; generalize hg_ : x.heap.size = p10 at *; clear hg_; generalize hw_ : x.alloc (.cells #[.int .u64 0, .slice none 0 0] 75) = x at *; clear hw_; clear X0 X1; have X0 : ∀ W, BelowX B_ B_ x W → W.cell? ⟨pc, 0, none⟩ = some (.slice A1 l.length c1) := fun W h => ((hc.belowx h hpB (by omega)).cell 0).trans rfl; have X1 : ∀ W, BelowX B_ B_ x W → W.cell? ⟨pc, 1, none⟩ = some (.int .i64 (q : Int)) := fun W h => ((hc.belowx h hpB (by omega)).cell 1).trans rfl
            try simp only [Act.put, List.setIfInBounds_toArray, List.set_cons_zero, List.set_cons_succ]
            refine bx_step (i := 10) (oi := ?oia10x59) (by kernel_rfl) ?hia10x59 ?hwa10x59 (fun K hK => ?_)
            case hia10x59 => simp only [List.getElem?_toArray, List.getElem?_cons_zero, List.getElem?_cons_succ]; rfl
            case hwa10x59 => rfl
            have y0 := (k9.cell 0).trans (show _ = some (.slice none 0 0) from rfl); have y1 := (k9.cell 1).trans (show _ = some (.int .i64 0) from rfl); have y2 := k9.frozen 0; have y3 := k9.frozen 1; go_simp; clear y0 y1 y2 y3; refine hK _ _ (((BelowX.refl _ _ _).setHi hxp9 0 _).setHi hxp9 1 _) ?_; replace hc := (hc.far (p := ⟨p9, 0, none⟩) (by simp <;> omega) (.slice A7 n7 c7)).far (p := ⟨p9, 1, none⟩) (by simp <;> omega) (.int .i64 a7); replace o1 := own_setNe (own_setNe o1 k9 (by decide) 0 (.slice A7 n7 c7)) (k9.set_ 0 (.slice A7 n7 c7)) (by decide) 1 (.int .i64 a7); replace ho := OwU.far (OwU.far ho k9 (by decide) 0 (.slice A7 n7 c7)) (k9.set_ 0 (.slice A7 n7 c7)) (by decide) 1 (.int .i64 a7); replace hv := OwV.setOut (a := ⟨p9, 1, none⟩) (by simp <;> omega) (OwV.setOut (a := ⟨p9, 0, none⟩) (by simp <;> omega) hv (.slice A7 n7 c7)) (.int .i64 a7); replace k10 := (k10.far (p := ⟨p9, 0, none⟩) (fun e => Blk.ne_ k10 k9 (by decide) e) (.slice A7 n7 c7)).far (p := ⟨p9, 1, none⟩) (fun e => Blk.ne_ k10 k9 (by decide) e) (.int .i64 a7); replace k9 : Blk _ p9 70 #[.slice A7 n7 c7, .int .i64 a7] := (k9.set_ 0 (.slice A7 n7 c7)).set_ 1 (.int .i64 a7); replace hB := setHiB (setHiB hB (show w.heap.size ≤ p9 by omega) 0 (.slice A7 n7 c7)) (show w.heap.size ≤ p9 by omega) 1 (.int .i64 a7); replace hBx : B_ ≤ ((x.setCell ⟨p9, 0, none⟩ (.slice A7 n7 c7)).setCell ⟨p9, 1, none⟩ (.int .i64 a7)).heap.size := (by simpa using hBx); generalize hw_ : (x.setCell ⟨p9, 0, none⟩ (.slice A7 n7 c7)).setCell ⟨p9, 1, none⟩ (.int .i64 a7) = x at *; clear hw_; clear X0 X1; have X0 : ∀ W, BelowX B_ B_ x W → W.cell? ⟨pc, 0, none⟩ = some (.slice A1 l.length c1) := fun W h => ((hc.belowx h hpB (by omega)).cell 0).trans rfl; have X1 : ∀ W, BelowX B_ B_ x W → W.cell? ⟨pc, 1, none⟩ = some (.int .i64 (q : Int)) := fun W h => ((hc.belowx h hpB (by omega)).cell 1).trans rfl
            try simp only [Act.put, List.setIfInBounds_toArray, List.set_cons_zero, List.set_cons_succ]
            refine bx_step (i := 11) (oi := ?oia11x60) (by kernel_rfl) ?hia11x60 ?hwa11x60 (fun K hK => ?_)
            case hia11x60 => simp only [List.getElem?_toArray, List.getElem?_cons_zero, List.getElem?_cons_succ]; rfl
            case hwa11x60 => rfl
            have y0 := (k10.cell 0).trans (show _ = some (.int .u64 0) from rfl); have y1 := (k10.cell 1).trans (show _ = some (.slice none 0 0) from rfl); have y2 := k10.frozen 0; have y3 := k10.frozen 1; go_simp; clear y0 y1 y2 y3; refine hK _ _ (((BelowX.refl _ _ _).setHi hxp10 0 _).setHi hxp10 1 _) ?_; replace hc := (hc.far (p := ⟨p10, 0, none⟩) (by simp <;> omega) (.int .u64 (bs : Int))).far (p := ⟨p10, 1, none⟩) (by simp <;> omega) (.slice A5 S.size c5); replace o1 := own_setNe (own_setNe o1 k10 (by decide) 0 (.int .u64 (bs : Int))) (k10.set_ 0 (.int .u64 (bs : Int))) (by decide) 1 (.slice A5 S.size c5); replace ho := OwU.far (OwU.far ho k10 (by decide) 0 (.int .u64 (bs : Int))) (k10.set_ 0 (.int .u64 (bs : Int))) (by decide) 1 (.slice A5 S.size c5); replace hv := OwV.setOut (a := ⟨p10, 1, none⟩) (by simp <;> omega) (OwV.setOut (a := ⟨p10, 0, none⟩) (by simp <;> omega) hv (.int .u64 (bs : Int))) (.slice A5 S.size c5); replace k9 := (k9.far (p := ⟨p10, 0, none⟩) (fun e => Blk.ne_ k9 k10 (by decide) e) (.int .u64 (bs : Int))).far (p := ⟨p10, 1, none⟩) (fun e => Blk.ne_ k9 k10 (by decide) e) (.slice A5 S.size c5); replace k10 : Blk _ p10 75 #[.int .u64 (bs : Int), .slice A5 S.size c5] := (k10.set_ 0 (.int .u64 (bs : Int))).set_ 1 (.slice A5 S.size c5); replace hB := setHiB (setHiB hB (show w.heap.size ≤ p10 by omega) 0 (.int .u64 (bs : Int))) (show w.heap.size ≤ p10 by omega) 1 (.slice A5 S.size c5); replace hBx : B_ ≤ ((x.setCell ⟨p10, 0, none⟩ (.int .u64 (bs : Int))).setCell ⟨p10, 1, none⟩ (.slice A5 S.size c5)).heap.size := (by simpa using hBx); generalize hw_ : (x.setCell ⟨p10, 0, none⟩ (.int .u64 (bs : Int))).setCell ⟨p10, 1, none⟩ (.slice A5 S.size c5) = x at *; clear hw_; clear X0 X1; have X0 : ∀ W, BelowX B_ B_ x W → W.cell? ⟨pc, 0, none⟩ = some (.slice A1 l.length c1) := fun W h => ((hc.belowx h hpB (by omega)).cell 0).trans rfl; have X1 : ∀ W, BelowX B_ B_ x W → W.cell? ⟨pc, 1, none⟩ = some (.int .i64 (q : Int)) := fun W h => ((hc.belowx h hpB (by omega)).cell 1).trans rfl
            try simp only [Act.put, List.setIfInBounds_toArray, List.set_cons_zero, List.set_cons_succ]
            refine bx_take (i := 12) (oi := ?oia12x61) (v := ?va12x61) ?hia12x61 (by kernel_rfl) (by kernel_rfl) (by kernel_rfl) hQ ?hwa12x61 ?hya12x61 ?resta12x61
            case hia12x61 => simp only [List.getElem?_toArray, List.getElem?_cons_zero, List.getElem?_cons_succ]; rfl
            case hwa12x61 => rfl
            case hya12x61 => intro W hW; go_simp; with_reducible rfl
            simp only [Act.put, List.setIfInBounds_toArray, List.set_cons_zero, List.set_cons_succ]
            refine wpAnyH_done (by kernel_rfl) ?_ _
            simp only [NoP]
            go_wp2_with fail
            go_meet
            case rel => exact ⟨p9, p10, B_, A5, c5, rfl, rfl, rfl, by omega, by omega, by omega, k9, k10, ho, hcap, hc, o1, hv, hB⟩
          · go_simp
            have b := Ext.al x (.cells #[.int .u64 0, .slice none 0 0] 75); have hxp10 := hBx; replace hc := hc.below b hc.lt; replace o1 := own_call o1 b; replace hv := hv.call b; (try replace k9 := k9.below b k9.lt); (try replace k10 := k10.below b k10.lt); (try replace ho := ho.call b); replace hB := hB.trans (b.mono hB.size); have bx := BelowX.of (Below.mono b hBx) B_; replace hBx := Nat.le_trans hBx b.size; have k10 := Blk.new x 75 #[.int .u64 0, .slice none 0 0]; refine hK _ _ bx ?_; clear b bx; generalize hg_ : x.heap.size = p10 at *; clear hg_; generalize hw_ : x.alloc (.cells #[.int .u64 0, .slice none 0 0] 75) = x at *; clear hw_; clear X0 X1; have X0 : ∀ W, BelowX B_ B_ x W → W.cell? ⟨pc, 0, none⟩ = some (.slice A1 l.length c1) := fun W h => ((hc.belowx h hpB (by omega)).cell 0).trans rfl; have X1 : ∀ W, BelowX B_ B_ x W → W.cell? ⟨pc, 1, none⟩ = some (.int .i64 (q : Int)) := fun W h => ((hc.belowx h hpB (by omega)).cell 1).trans rfl
            try simp only [Act.put, List.setIfInBounds_toArray, List.set_cons_zero, List.set_cons_succ]
            refine bx_step (i := 3) (oi := ?oia3x62) (by kernel_rfl) ?hia3x62 ?hwa3x62 (fun K hK => ?_)
            case hia3x62 => simp only [List.getElem?_toArray, List.getElem?_cons_zero, List.getElem?_cons_succ]; rfl
            case hwa3x62 => rfl
            go_simp
            refine (HU.out _ (own_rd o1)).mono ?_; rintro e x ⟨A5, c5, rfl, ho, hcap, b⟩; replace ho := ho.low (show Bl ≤ _ from by omega); replace hc := hc.below b hc.lt; replace o1 := own_call o1 b; replace hv := hv.call b; (try replace k9 := k9.below b k9.lt); (try replace k10 := k10.below b k10.lt); replace hB := hB.trans (b.mono hB.size); have bx := BelowX.of (Below.mono b hBx) B_; replace hBx := Nat.le_trans hBx b.size; refine hK _ _ bx ?_; clear b bx; clear X0 X1; have X0 : ∀ W, BelowX B_ B_ x W → W.cell? ⟨pc, 0, none⟩ = some (.slice A1 l.length c1) := fun W h => ((hc.belowx h hpB (by omega)).cell 0).trans rfl; have X1 : ∀ W, BelowX B_ B_ x W → W.cell? ⟨pc, 1, none⟩ = some (.int .i64 (q : Int)) := fun W h => ((hc.belowx h hpB (by omega)).cell 1).trans rfl
            try simp only [Act.put, List.setIfInBounds_toArray, List.set_cons_zero, List.set_cons_succ]
            refine bx_take (i := 4) (oi := ?oia4x63) (v := ?va4x63) ?hia4x63 (by kernel_rfl) (by kernel_rfl) (by kernel_rfl) hQ ?hwa4x63 ?hya4x63 ?resta4x63
            case hia4x63 => simp only [List.getElem?_toArray, List.getElem?_cons_zero, List.getElem?_cons_succ]; rfl
            case hwa4x63 => rfl
            case hya4x63 => intro W hW; go_simp; with_reducible rfl
            simp only [Act.put, List.setIfInBounds_toArray, List.set_cons_zero, List.set_cons_succ]
            refine bx_take (i := 5) (oi := ?oia5x64) (v := ?va5x64) ?hia5x64 (by kernel_rfl) (by kernel_rfl) (by kernel_rfl) hQ ?hwa5x64 ?hya5x64 ?resta5x64
            case hia5x64 => simp only [List.getElem?_toArray, List.getElem?_cons_zero, List.getElem?_cons_succ]; rfl
            case hwa5x64 => rfl
            case hya5x64 => intro W hW; go_simp; with_reducible rfl
            simp only [Act.put, List.setIfInBounds_toArray, List.set_cons_zero, List.set_cons_succ]
            refine bx_take (i := 6) (oi := ?oia6x65) (v := ?va6x65) ?hia6x65 (by kernel_rfl) (by kernel_rfl) (by kernel_rfl) hQ ?hwa6x65 ?hya6x65 ?resta6x65
            case hia6x65 => simp only [List.getElem?_toArray, List.getElem?_cons_zero, List.getElem?_cons_succ]; rfl
            case hwa6x65 => rfl
            case hya6x65 => intro W hW; go_simp; with_reducible rfl
            simp only [Act.put, List.setIfInBounds_toArray, List.set_cons_zero, List.set_cons_succ]
            refine bx_take (i := 7) (oi := ?oia7x66) (v := ?va7x66) ?hia7x66 (by kernel_rfl) (by kernel_rfl) (by kernel_rfl) hQ ?hwa7x66 ?hya7x66 ?resta7x66
            case hia7x66 => simp only [List.getElem?_toArray, List.getElem?_cons_zero, List.getElem?_cons_succ]; rfl
            case hwa7x66 => rfl
            case hya7x66 => intro W hW; go_simp; with_reducible rfl
            simp only [Act.put, List.setIfInBounds_toArray, List.set_cons_zero, List.set_cons_succ]
            refine bx_step (i := 10) (oi := ?oia10x67) (by kernel_rfl) ?hia10x67 ?hwa10x67 (fun K hK => ?_)
            case hia10x67 => simp only [List.getElem?_toArray, List.getElem?_cons_zero, List.getElem?_cons_succ]; rfl
            case hwa10x67 => rfl
            have y0 := (k9.cell 0).trans (show _ = some (.slice none 0 0) from rfl); have y1 := (k9.cell 1).trans (show _ = some (.int .i64 0) from rfl); have y2 := k9.frozen 0; have y3 := k9.frozen 1; go_simp; clear y0 y1 y2 y3; refine hK _ _ (((BelowX.refl _ _ _).setHi hxp9 0 _).setHi hxp9 1 _) ?_; replace hc := (hc.far (p := ⟨p9, 0, none⟩) (by simp <;> omega) (.slice A7 n7 c7)).far (p := ⟨p9, 1, none⟩) (by simp <;> omega) (.int .i64 a7); replace o1 := own_setNe (own_setNe o1 k9 (by decide) 0 (.slice A7 n7 c7)) (k9.set_ 0 (.slice A7 n7 c7)) (by decide) 1 (.int .i64 a7); replace ho := OwU.far (OwU.far ho k9 (by decide) 0 (.slice A7 n7 c7)) (k9.set_ 0 (.slice A7 n7 c7)) (by decide) 1 (.int .i64 a7); replace hv := OwV.setOut (a := ⟨p9, 1, none⟩) (by simp <;> omega) (OwV.setOut (a := ⟨p9, 0, none⟩) (by simp <;> omega) hv (.slice A7 n7 c7)) (.int .i64 a7); replace k10 := (k10.far (p := ⟨p9, 0, none⟩) (fun e => Blk.ne_ k10 k9 (by decide) e) (.slice A7 n7 c7)).far (p := ⟨p9, 1, none⟩) (fun e => Blk.ne_ k10 k9 (by decide) e) (.int .i64 a7); replace k9 : Blk _ p9 70 #[.slice A7 n7 c7, .int .i64 a7] := (k9.set_ 0 (.slice A7 n7 c7)).set_ 1 (.int .i64 a7); replace hB := setHiB (setHiB hB (show w.heap.size ≤ p9 by omega) 0 (.slice A7 n7 c7)) (show w.heap.size ≤ p9 by omega) 1 (.int .i64 a7); replace hBx : B_ ≤ ((x.setCell ⟨p9, 0, none⟩ (.slice A7 n7 c7)).setCell ⟨p9, 1, none⟩ (.int .i64 a7)).heap.size := (by simpa using hBx); generalize hw_ : (x.setCell ⟨p9, 0, none⟩ (.slice A7 n7 c7)).setCell ⟨p9, 1, none⟩ (.int .i64 a7) = x at *; clear hw_; clear X0 X1; have X0 : ∀ W, BelowX B_ B_ x W → W.cell? ⟨pc, 0, none⟩ = some (.slice A1 l.length c1) := fun W h => ((hc.belowx h hpB (by omega)).cell 0).trans rfl; have X1 : ∀ W, BelowX B_ B_ x W → W.cell? ⟨pc, 1, none⟩ = some (.int .i64 (q : Int)) := fun W h => ((hc.belowx h hpB (by omega)).cell 1).trans rfl
            try simp only [Act.put, List.setIfInBounds_toArray, List.set_cons_zero, List.set_cons_succ]
            refine bx_step (i := 11) (oi := ?oia11x68) (by kernel_rfl) ?hia11x68 ?hwa11x68 (fun K hK => ?_)
            case hia11x68 => simp only [List.getElem?_toArray, List.getElem?_cons_zero, List.getElem?_cons_succ]; rfl
            case hwa11x68 => rfl
            have y0 := (k10.cell 0).trans (show _ = some (.int .u64 0) from rfl); have y1 := (k10.cell 1).trans (show _ = some (.slice none 0 0) from rfl); have y2 := k10.frozen 0; have y3 := k10.frozen 1; go_simp; clear y0 y1 y2 y3; refine hK _ _ (((BelowX.refl _ _ _).setHi hxp10 0 _).setHi hxp10 1 _) ?_; replace hc := (hc.far (p := ⟨p10, 0, none⟩) (by simp <;> omega) (.int .u64 (bs : Int))).far (p := ⟨p10, 1, none⟩) (by simp <;> omega) (.slice A5 S.size c5); replace o1 := own_setNe (own_setNe o1 k10 (by decide) 0 (.int .u64 (bs : Int))) (k10.set_ 0 (.int .u64 (bs : Int))) (by decide) 1 (.slice A5 S.size c5); replace ho := OwU.far (OwU.far ho k10 (by decide) 0 (.int .u64 (bs : Int))) (k10.set_ 0 (.int .u64 (bs : Int))) (by decide) 1 (.slice A5 S.size c5); replace hv := OwV.setOut (a := ⟨p10, 1, none⟩) (by simp <;> omega) (OwV.setOut (a := ⟨p10, 0, none⟩) (by simp <;> omega) hv (.int .u64 (bs : Int))) (.slice A5 S.size c5); replace k9 := (k9.far (p := ⟨p10, 0, none⟩) (fun e => Blk.ne_ k9 k10 (by decide) e) (.int .u64 (bs : Int))).far (p := ⟨p10, 1, none⟩) (fun e => Blk.ne_ k9 k10 (by decide) e) (.slice A5 S.size c5); replace k10 : Blk _ p10 75 #[.int .u64 (bs : Int), .slice A5 S.size c5] := (k10.set_ 0 (.int .u64 (bs : Int))).set_ 1 (.slice A5 S.size c5); replace hB := setHiB (setHiB hB (show w.heap.size ≤ p10 by omega) 0 (.int .u64 (bs : Int))) (show w.heap.size ≤ p10 by omega) 1 (.slice A5 S.size c5); replace hBx : B_ ≤ ((x.setCell ⟨p10, 0, none⟩ (.int .u64 (bs : Int))).setCell ⟨p10, 1, none⟩ (.slice A5 S.size c5)).heap.size := (by simpa using hBx); generalize hw_ : (x.setCell ⟨p10, 0, none⟩ (.int .u64 (bs : Int))).setCell ⟨p10, 1, none⟩ (.slice A5 S.size c5) = x at *; clear hw_; clear X0 X1; have X0 : ∀ W, BelowX B_ B_ x W → W.cell? ⟨pc, 0, none⟩ = some (.slice A1 l.length c1) := fun W h => ((hc.belowx h hpB (by omega)).cell 0).trans rfl; have X1 : ∀ W, BelowX B_ B_ x W → W.cell? ⟨pc, 1, none⟩ = some (.int .i64 (q : Int)) := fun W h => ((hc.belowx h hpB (by omega)).cell 1).trans rfl
            try simp only [Act.put, List.setIfInBounds_toArray, List.set_cons_zero, List.set_cons_succ]
            refine bx_take (i := 12) (oi := ?oia12x69) (v := ?va12x69) ?hia12x69 (by kernel_rfl) (by kernel_rfl) (by kernel_rfl) hQ ?hwa12x69 ?hya12x69 ?resta12x69
            case hia12x69 => simp only [List.getElem?_toArray, List.getElem?_cons_zero, List.getElem?_cons_succ]; rfl
            case hwa12x69 => rfl
            case hya12x69 => intro W hW; go_simp; with_reducible rfl
            simp only [Act.put, List.setIfInBounds_toArray, List.set_cons_zero, List.set_cons_succ]
            refine wpAnyH_done (by kernel_rfl) ?_ _
            simp only [NoP]
            go_wp2_with fail
            go_meet
            case rel => exact ⟨p9, p10, B_, A5, c5, rfl, rfl, rfl, by omega, by omega, by omega, k9, k10, ho, hcap, hc, o1, hv, hB⟩
        · go_simp
          have b := Ext.al x (.cells #[.int .u64 0, .slice none 0 0] 75); have hxp10 := hBx; replace hc := hc.below b hc.lt; replace o1 := own_call o1 b; replace hv := hv.call b; (try replace k9 := k9.below b k9.lt); (try replace k10 := k10.below b k10.lt); (try replace ho := ho.call b); replace hB := hB.trans (b.mono hB.size); have bx := BelowX.of (Below.mono b hBx) B_; replace hBx := Nat.le_trans hBx b.size; have k10 := Blk.new x 75 #[.int .u64 0, .slice none 0 0]; refine hK _ _ bx ?_; clear b bx; generalize hg_ : x.heap.size = p10 at *; clear hg_; generalize hw_ : x.alloc (.cells #[.int .u64 0, .slice none 0 0] 75) = x at *; clear hw_; clear X0 X1; have X0 : ∀ W, BelowX B_ B_ x W → W.cell? ⟨pc, 0, none⟩ = some (.slice A1 l.length c1) := fun W h => ((hc.belowx h hpB (by omega)).cell 0).trans rfl; have X1 : ∀ W, BelowX B_ B_ x W → W.cell? ⟨pc, 1, none⟩ = some (.int .i64 (q : Int)) := fun W h => ((hc.belowx h hpB (by omega)).cell 1).trans rfl
          try simp only [Act.put, List.setIfInBounds_toArray, List.set_cons_zero, List.set_cons_succ]
          refine bx_step (i := 2) (oi := ?oia2x70) (by kernel_rfl) ?hia2x70 ?hwa2x70 (fun K hK => ?_)
          case hia2x70 => simp only [List.getElem?_toArray, List.getElem?_cons_zero, List.getElem?_cons_succ]; rfl
          case hwa2x70 => rfl
          go_simp
          refine (HBC.out _).mono ?_; rintro e wq ⟨rfl, rfl⟩; refine hK _ _ (BelowX.refl _ _ _) ?_
          try simp only [Act.put, List.setIfInBounds_toArray, List.set_cons_zero, List.set_cons_succ]
          refine bx_step (i := 3) (oi := ?oia3x71) (by kernel_rfl) ?hia3x71 ?hwa3x71 (fun K hK => ?_)
          case hia3x71 => simp only [List.getElem?_toArray, List.getElem?_cons_zero, List.getElem?_cons_succ]; rfl
          case hwa3x71 => rfl
          go_simp
          refine (HU.out _ (own_rd o1)).mono ?_; rintro e x ⟨A5, c5, rfl, ho, hcap, b⟩; replace ho := ho.low (show Bl ≤ _ from by omega); replace hc := hc.below b hc.lt; replace o1 := own_call o1 b; replace hv := hv.call b; (try replace k9 := k9.below b k9.lt); (try replace k10 := k10.below b k10.lt); replace hB := hB.trans (b.mono hB.size); have bx := BelowX.of (Below.mono b hBx) B_; replace hBx := Nat.le_trans hBx b.size; refine hK _ _ bx ?_; clear b bx; clear X0 X1; have X0 : ∀ W, BelowX B_ B_ x W → W.cell? ⟨pc, 0, none⟩ = some (.slice A1 l.length c1) := fun W h => ((hc.belowx h hpB (by omega)).cell 0).trans rfl; have X1 : ∀ W, BelowX B_ B_ x W → W.cell? ⟨pc, 1, none⟩ = some (.int .i64 (q : Int)) := fun W h => ((hc.belowx h hpB (by omega)).cell 1).trans rfl
          try simp only [Act.put, List.setIfInBounds_toArray, List.set_cons_zero, List.set_cons_succ]
          refine bx_take (i := 4) (oi := ?oia4x72) (v := ?va4x72) ?hia4x72 (by kernel_rfl) (by kernel_rfl) (by kernel_rfl) hQ ?hwa4x72 ?hya4x72 ?resta4x72
          case hia4x72 => simp only [List.getElem?_toArray, List.getElem?_cons_zero, List.getElem?_cons_succ]; rfl
          case hwa4x72 => rfl
          case hya4x72 => intro W hW; go_simp; with_reducible rfl
          simp only [Act.put, List.setIfInBounds_toArray, List.set_cons_zero, List.set_cons_succ]
          refine bx_take (i := 5) (oi := ?oia5x73) (v := ?va5x73) ?hia5x73 (by kernel_rfl) (by kernel_rfl) (by kernel_rfl) hQ ?hwa5x73 ?hya5x73 ?resta5x73
          case hia5x73 => simp only [List.getElem?_toArray, List.getElem?_cons_zero, List.getElem?_cons_succ]; rfl
          case hwa5x73 => rfl
          case hya5x73 => intro W hW; go_simp; with_reducible rfl
          simp only [Act.put, List.setIfInBounds_toArray, List.set_cons_zero, List.set_cons_succ]
          refine bx_take (i := 6) (oi := ?oia6x74) (v := ?va6x74) ?hia6x74 (by kernel_rfl) (by kernel_rfl) (by kernel_rfl) hQ ?hwa6x74 ?hya6x74 ?resta6x74
          case hia6x74 => simp only [List.getElem?_toArray, List.getElem?_cons_zero, List.getElem?_cons_succ]; rfl
          case hwa6x74 => rfl
          case hya6x74 => intro W hW; go_simp; with_reducible rfl
          simp only [Act.put, List.setIfInBounds_toArray, List.set_cons_zero, List.set_cons_succ]
          refine bx_take (i := 7) (oi := ?oia7x75) (v := ?va7x75) ?hia7x75 (by kernel_rfl) (by kernel_rfl) (by kernel_rfl) hQ ?hwa7x75 ?hya7x75 ?resta7x75
          case hia7x75 => simp only [List.getElem?_toArray, List.getElem?_cons_zero, List.getElem?_cons_succ]; rfl
          case hwa7x75 => rfl
          case hya7x75 => intro W hW; go_simp; with_reducible rfl
          simp only [Act.put, List.setIfInBounds_toArray, List.set_cons_zero, List.set_cons_succ]
          refine bx_step (i := 10) (oi := ?oia10x76) (by kernel_rfl) ?hia10x76 ?hwa10x76 (fun K hK => ?_)
          case hia10x76 => simp only [List.getElem?_toArray, List.getElem?_cons_zero, List.getElem?_cons_succ]; rfl
          case hwa10x76 => rfl
          have y0 := (k9.cell 0).trans (show _ = some (.slice none 0 0) from rfl); have y1 := (k9.cell 1).trans (show _ = some (.int .i64 0) from rfl); have y2 := k9.frozen 0; have y3 := k9.frozen 1; go_simp; clear y0 y1 y2 y3; refine hK _ _ (((BelowX.refl _ _ _).setHi hxp9 0 _).setHi hxp9 1 _) ?_; replace hc := (hc.far (p := ⟨p9, 0, none⟩) (by simp <;> omega) (.slice A7 n7 c7)).far (p := ⟨p9, 1, none⟩) (by simp <;> omega) (.int .i64 a7); replace o1 := own_setNe (own_setNe o1 k9 (by decide) 0 (.slice A7 n7 c7)) (k9.set_ 0 (.slice A7 n7 c7)) (by decide) 1 (.int .i64 a7); replace ho := OwU.far (OwU.far ho k9 (by decide) 0 (.slice A7 n7 c7)) (k9.set_ 0 (.slice A7 n7 c7)) (by decide) 1 (.int .i64 a7); replace hv := OwV.setOut (a := ⟨p9, 1, none⟩) (by simp <;> omega) (OwV.setOut (a := ⟨p9, 0, none⟩) (by simp <;> omega) hv (.slice A7 n7 c7)) (.int .i64 a7); replace k10 := (k10.far (p := ⟨p9, 0, none⟩) (fun e => Blk.ne_ k10 k9 (by decide) e) (.slice A7 n7 c7)).far (p := ⟨p9, 1, none⟩) (fun e => Blk.ne_ k10 k9 (by decide) e) (.int .i64 a7); replace k9 : Blk _ p9 70 #[.slice A7 n7 c7, .int .i64 a7] := (k9.set_ 0 (.slice A7 n7 c7)).set_ 1 (.int .i64 a7); replace hB := setHiB (setHiB hB (show w.heap.size ≤ p9 by omega) 0 (.slice A7 n7 c7)) (show w.heap.size ≤ p9 by omega) 1 (.int .i64 a7); replace hBx : B_ ≤ ((x.setCell ⟨p9, 0, none⟩ (.slice A7 n7 c7)).setCell ⟨p9, 1, none⟩ (.int .i64 a7)).heap.size := (by simpa using hBx); generalize hw_ : (x.setCell ⟨p9, 0, none⟩ (.slice A7 n7 c7)).setCell ⟨p9, 1, none⟩ (.int .i64 a7) = x at *; clear hw_; clear X0 X1; have X0 : ∀ W, BelowX B_ B_ x W → W.cell? ⟨pc, 0, none⟩ = some (.slice A1 l.length c1) := fun W h => ((hc.belowx h hpB (by omega)).cell 0).trans rfl; have X1 : ∀ W, BelowX B_ B_ x W → W.cell? ⟨pc, 1, none⟩ = some (.int .i64 (q : Int)) := fun W h => ((hc.belowx h hpB (by omega)).cell 1).trans rfl
          try simp only [Act.put, List.setIfInBounds_toArray, List.set_cons_zero, List.set_cons_succ]
          refine bx_step (i := 11) (oi := ?oia11x77) (by kernel_rfl) ?hia11x77 ?hwa11x77 (fun K hK => ?_)
          case hia11x77 => simp only [List.getElem?_toArray, List.getElem?_cons_zero, List.getElem?_cons_succ]; rfl
          case hwa11x77 => rfl
          have y0 := (k10.cell 0).trans (show _ = some (.int .u64 0) from rfl); have y1 := (k10.cell 1).trans (show _ = some (.slice none 0 0) from rfl); have y2 := k10.frozen 0; have y3 := k10.frozen 1; go_simp; clear y0 y1 y2 y3; refine hK _ _ (((BelowX.refl _ _ _).setHi hxp10 0 _).setHi hxp10 1 _) ?_; replace hc := (hc.far (p := ⟨p10, 0, none⟩) (by simp <;> omega) (.int .u64 (bs : Int))).far (p := ⟨p10, 1, none⟩) (by simp <;> omega) (.slice A5 S.size c5); replace o1 := own_setNe (own_setNe o1 k10 (by decide) 0 (.int .u64 (bs : Int))) (k10.set_ 0 (.int .u64 (bs : Int))) (by decide) 1 (.slice A5 S.size c5); replace ho := OwU.far (OwU.far ho k10 (by decide) 0 (.int .u64 (bs : Int))) (k10.set_ 0 (.int .u64 (bs : Int))) (by decide) 1 (.slice A5 S.size c5); replace hv := OwV.setOut (a := ⟨p10, 1, none⟩) (by simp <;> omega) (OwV.setOut (a := ⟨p10, 0, none⟩) (by simp <;> omega) hv (.int .u64 (bs : Int))) (.slice A5 S.size c5); replace k9 := (k9.far (p := ⟨p10, 0, none⟩) (fun e => Blk.ne_ k9 k10 (by decide) e) (.int .u64 (bs : Int))).far (p := ⟨p10, 1, none⟩) (fun e => Blk.ne_ k9 k10 (by decide) e) (.slice A5 S.size c5); replace k10 : Blk _ p10 75 #[.int .u64 (bs : Int), .slice A5 S.size c5] := (k10.set_ 0 (.int .u64 (bs : Int))).set_ 1 (.slice A5 S.size c5); replace hB := setHiB (setHiB hB (show w.heap.size ≤ p10 by omega) 0 (.int .u64 (bs : Int))) (show w.heap.size ≤ p10 by omega) 1 (.slice A5 S.size c5); replace hBx : B_ ≤ ((x.setCell ⟨p10, 0, none⟩ (.int .u64 (bs : Int))).setCell ⟨p10, 1, none⟩ (.slice A5 S.size c5)).heap.size := (by simpa using hBx); generalize hw_ : (x.setCell ⟨p10, 0, none⟩ (.int .u64 (bs : Int))).setCell ⟨p10, 1, none⟩ (.slice A5 S.size c5) = x at *; clear hw_; clear X0 X1; have X0 : ∀ W, BelowX B_ B_ x W → W.cell? ⟨pc, 0, none⟩ = some (.slice A1 l.length c1) := fun W h => ((hc.belowx h hpB (by omega)).cell 0).trans rfl; have X1 : ∀ W, BelowX B_ B_ x W → W.cell? ⟨pc, 1, none⟩ = some (.int .i64 (q : Int)) := fun W h => ((hc.belowx h hpB (by omega)).cell 1).trans rfl
          try simp only [Act.put, List.setIfInBounds_toArray, List.set_cons_zero, List.set_cons_succ]
          refine bx_take (i := 12) (oi := ?oia12x78) (v := ?va12x78) ?hia12x78 (by kernel_rfl) (by kernel_rfl) (by kernel_rfl) hQ ?hwa12x78 ?hya12x78 ?resta12x78
          case hia12x78 => simp only [List.getElem?_toArray, List.getElem?_cons_zero, List.getElem?_cons_succ]; rfl
          case hwa12x78 => rfl
          case hya12x78 => intro W hW; go_simp; with_reducible rfl
          simp only [Act.put, List.setIfInBounds_toArray, List.set_cons_zero, List.set_cons_succ]
          refine wpAnyH_done (by kernel_rfl) ?_ _
          simp only [NoP]
          go_wp2_with fail
          go_meet
          case rel => exact ⟨p9, p10, B_, A5, c5, rfl, rfl, rfl, by omega, by omega, by omega, k9, k10, ho, hcap, hc, o1, hv, hB⟩
      · go_simp
        have b := Ext.al x (.cells #[.int .u64 0, .slice none 0 0] 75); have hxp10 := hBx; replace hc := hc.below b hc.lt; replace o1 := own_call o1 b; replace hv := hv.call b; (try replace k9 := k9.below b k9.lt); (try replace k10 := k10.below b k10.lt); (try replace ho := ho.call b); replace hB := hB.trans (b.mono hB.size); have bx := BelowX.of (Below.mono b hBx) B_; replace hBx := Nat.le_trans hBx b.size; have k10 := Blk.new x 75 #[.int .u64 0, .slice none 0 0]; refine hK _ _ bx ?_; clear b bx; generalize hg_ : x.heap.size = p10 at *; clear hg_; generalize hw_ : x.alloc (.cells #[.int .u64 0, .slice none 0 0] 75) = x at *; clear hw_; clear X0 X1; have X0 : ∀ W, BelowX B_ B_ x W → W.cell? ⟨pc, 0, none⟩ = some (.slice A1 l.length c1) := fun W h => ((hc.belowx h hpB (by omega)).cell 0).trans rfl; have X1 : ∀ W, BelowX B_ B_ x W → W.cell? ⟨pc, 1, none⟩ = some (.int .i64 (q : Int)) := fun W h => ((hc.belowx h hpB (by omega)).cell 1).trans rfl
        try simp only [Act.put, List.setIfInBounds_toArray, List.set_cons_zero, List.set_cons_succ]
        refine bx_two (i := 2) (j := 8) (oi := ?oia2x79) (oj := ?oja2x79) (by kernel_rfl) ?hia2x79 ?hja2x79 ?hwa2x79 ?hva2x79 (fun K hK => ?_) (fun K hK => ?_)
        case hia2x79 => simp only [List.getElem?_toArray, List.getElem?_cons_zero, List.getElem?_cons_succ]; rfl
        case hja2x79 => simp only [List.getElem?_toArray, List.getElem?_cons_zero, List.getElem?_cons_succ]; rfl
        case hwa2x79 => rfl
        case hva2x79 => rfl
        · go_simp
          refine (HBC.out _).mono ?_; rintro e wq ⟨rfl, rfl⟩; refine hK _ _ (BelowX.refl _ _ _) ?_
          try simp only [Act.put, List.setIfInBounds_toArray, List.set_cons_zero, List.set_cons_succ]
          refine bx_two (i := 3) (j := 8) (oi := ?oia3x80) (oj := ?oja3x80) (by kernel_rfl) ?hia3x80 ?hja3x80 ?hwa3x80 ?hva3x80 (fun K hK => ?_) (fun K hK => ?_)
          case hia3x80 => simp only [List.getElem?_toArray, List.getElem?_cons_zero, List.getElem?_cons_succ]; rfl
          case hja3x80 => simp only [List.getElem?_toArray, List.getElem?_cons_zero, List.getElem?_cons_succ]; rfl
          case hwa3x80 => rfl
          case hva3x80 => rfl
          · go_simp
            refine (HU.out _ (own_rd o1)).mono ?_; rintro e x ⟨A5, c5, rfl, ho, hcap, b⟩; replace ho := ho.low (show Bl ≤ _ from by omega); replace hc := hc.below b hc.lt; replace o1 := own_call o1 b; replace hv := hv.call b; (try replace k9 := k9.below b k9.lt); (try replace k10 := k10.below b k10.lt); replace hB := hB.trans (b.mono hB.size); have bx := BelowX.of (Below.mono b hBx) B_; replace hBx := Nat.le_trans hBx b.size; refine hK _ _ bx ?_; clear b bx; clear X0 X1; have X0 : ∀ W, BelowX B_ B_ x W → W.cell? ⟨pc, 0, none⟩ = some (.slice A1 l.length c1) := fun W h => ((hc.belowx h hpB (by omega)).cell 0).trans rfl; have X1 : ∀ W, BelowX B_ B_ x W → W.cell? ⟨pc, 1, none⟩ = some (.int .i64 (q : Int)) := fun W h => ((hc.belowx h hpB (by omega)).cell 1).trans rfl
            try simp only [Act.put, List.setIfInBounds_toArray, List.set_cons_zero, List.set_cons_succ]
            refine bx_take (i := 4) (oi := ?oia4x81) (v := ?va4x81) ?hia4x81 (by kernel_rfl) (by kernel_rfl) (by kernel_rfl) hQ ?hwa4x81 ?hya4x81 ?resta4x81
            case hia4x81 => simp only [List.getElem?_toArray, List.getElem?_cons_zero, List.getElem?_cons_succ]; rfl
            case hwa4x81 => rfl
            case hya4x81 => intro W hW; go_simp; with_reducible rfl
            simp only [Act.put, List.setIfInBounds_toArray, List.set_cons_zero, List.set_cons_succ]
            refine bx_take (i := 5) (oi := ?oia5x82) (v := ?va5x82) ?hia5x82 (by kernel_rfl) (by kernel_rfl) (by kernel_rfl) hQ ?hwa5x82 ?hya5x82 ?resta5x82
            case hia5x82 => simp only [List.getElem?_toArray, List.getElem?_cons_zero, List.getElem?_cons_succ]; rfl
            case hwa5x82 => rfl
            case hya5x82 => intro W hW; go_simp; with_reducible rfl
            simp only [Act.put, List.setIfInBounds_toArray, List.set_cons_zero, List.set_cons_succ]
            refine bx_take (i := 6) (oi := ?oia6x83) (v := ?va6x83) ?hia6x83 (by kernel_rfl) (by kernel_rfl) (by kernel_rfl) hQ ?hwa6x83 ?hya6x83 ?resta6x83
            case hia6x83 => simp only [List.getElem?_toArray, List.getElem?_cons_zero, List.getElem?_cons_succ]; rfl
            case hwa6x83 => rfl
            case hya6x83 => intro W hW; go_simp; with_reducible rfl
            simp only [Act.put, List.setIfInBounds_toArray, List.set_cons_zero, List.set_cons_succ]
            refine bx_take (i := 7) (oi := ?oia7x84) (v := ?va7x84) ?hia7x84 (by kernel_rfl) (by kernel_rfl) (by kernel_rfl) hQ ?hwa7x84 ?hya7x84 ?resta7x84
            case hia7x84 => simp only [List.getElem?_toArray, List.getElem?_cons_zero, List.getElem?_cons_succ]; rfl
            case hwa7x84 => rfl
            case hya7x84 => intro W hW; go_simp; with_reducible rfl
            simp only [Act.put, List.setIfInBounds_toArray, List.set_cons_zero, List.set_cons_succ]
            refine bx_step (i := 8) (oi := ?oia8x85) (by kernel_rfl) ?hia8x85 ?hwa8x85 (fun K hK => ?_)
            case hia8x85 => simp only [List.getElem?_toArray, List.getElem?_cons_zero, List.getElem?_cons_succ]; rfl
            case hwa8x85 => rfl
            go_simp
            have b := Ext.al x (.cells #[.slice none 0 0, .int .i64 0] 70); have hxp9 := hBx; replace hc := hc.below b hc.lt; replace o1 := own_call o1 b; replace hv := hv.call b; (try replace k9 := k9.below b k9.lt); (try replace k10 := k10.below b k10.lt); (try replace ho := ho.call b); replace hB := hB.trans (b.mono hB.size); have bx := BelowX.of (Below.mono b hBx) B_; replace hBx := Nat.le_trans hBx b.size; have k9 := Blk.new x 70 #[.slice none 0 0, .int .i64 0]; refine hK _ _ bx ?_; clear b bx; generalize hg_ : x.heap.size = p9 at *; clear hg_; generalize hw_ : x.alloc (.cells #[.slice none 0 0, .int .i64 0] 70) = x at *; clear hw_; clear X0 X1; have X0 : ∀ W, BelowX B_ B_ x W → W.cell? ⟨pc, 0, none⟩ = some (.slice A1 l.length c1) := fun W h => ((hc.belowx h hpB (by omega)).cell 0).trans rfl; have X1 : ∀ W, BelowX B_ B_ x W → W.cell? ⟨pc, 1, none⟩ = some (.int .i64 (q : Int)) := fun W h => ((hc.belowx h hpB (by omega)).cell 1).trans rfl
            try simp only [Act.put, List.setIfInBounds_toArray, List.set_cons_zero, List.set_cons_succ]
            refine bx_step (i := 10) (oi := ?oia10x86) (by kernel_rfl) ?hia10x86 ?hwa10x86 (fun K hK => ?_)
            case hia10x86 => simp only [List.getElem?_toArray, List.getElem?_cons_zero, List.getElem?_cons_succ]; rfl
            case hwa10x86 => rfl
            have y0 := (k9.cell 0).trans (show _ = some (.slice none 0 0) from rfl); have y1 := (k9.cell 1).trans (show _ = some (.int .i64 0) from rfl); have y2 := k9.frozen 0; have y3 := k9.frozen 1; go_simp; clear y0 y1 y2 y3; refine hK _ _ (((BelowX.refl _ _ _).setHi hxp9 0 _).setHi hxp9 1 _) ?_; replace hc := (hc.far (p := ⟨p9, 0, none⟩) (by simp <;> omega) (.slice A7 n7 c7)).far (p := ⟨p9, 1, none⟩) (by simp <;> omega) (.int .i64 a7); replace o1 := own_setNe (own_setNe o1 k9 (by decide) 0 (.slice A7 n7 c7)) (k9.set_ 0 (.slice A7 n7 c7)) (by decide) 1 (.int .i64 a7); replace ho := OwU.far (OwU.far ho k9 (by decide) 0 (.slice A7 n7 c7)) (k9.set_ 0 (.slice A7 n7 c7)) (by decide) 1 (.int .i64 a7); replace hv := OwV.setOut (a := ⟨p9, 1, none⟩) (by simp <;> omega) (OwV.setOut (a := ⟨p9, 0, none⟩) (by simp <;> omega) hv (.slice A7 n7 c7)) (.int .i64 a7); replace k10 := (k10.far (p := ⟨p9, 0, none⟩) (fun e => Blk.ne_ k10 k9 (by decide) e) (.slice A7 n7 c7)).far (p := ⟨p9, 1, none⟩) (fun e => Blk.ne_ k10 k9 (by decide) e) (.int .i64 a7); replace k9 : Blk _ p9 70 #[.slice A7 n7 c7, .int .i64 a7] := (k9.set_ 0 (.slice A7 n7 c7)).set_ 1 (.int .i64 a7); replace hB := setHiB (setHiB hB (show w.heap.size ≤ p9 by omega) 0 (.slice A7 n7 c7)) (show w.heap.size ≤ p9 by omega) 1 (.int .i64 a7); replace hBx : B_ ≤ ((x.setCell ⟨p9, 0, none⟩ (.slice A7 n7 c7)).setCell ⟨p9, 1, none⟩ (.int .i64 a7)).heap.size := (by simpa using hBx); generalize hw_ : (x.setCell ⟨p9, 0, none⟩ (.slice A7 n7 c7)).setCell ⟨p9, 1, none⟩ (.int .i64 a7) = x at *; clear hw_; clear X0 X1; have X0 : ∀ W, BelowX B_ B_ x W → W.cell? ⟨pc, 0, none⟩ = some (.slice A1 l.length c1) := fun W h => ((hc.belowx h hpB (by omega)).cell 0).trans rfl; have X1 : ∀ W, BelowX B_ B_ x W → W.cell? ⟨pc, 1, none⟩ = some (.int .i64 (q : Int)) := fun W h => ((hc.belowx h hpB (by omega)).cell 1).trans rfl
            try simp only [Act.put, List.setIfInBounds_toArray, List.set_cons_zero, List.set_cons_succ]
            refine bx_step (i := 11) (oi := ?oia11x87) (by kernel_rfl) ?hia11x87 ?hwa11x87 (fun K hK => ?_)
            case hia11x87 => simp only [List.getElem?_toArray, List.getElem?_cons_zero, List.getElem?_cons_succ]; rfl
            case hwa11x87 => rfl
            have y0 := (k10.cell 0).trans (show _ = some (.int .u64 0) from rfl); have y1 := (k10.cell 1).trans (show _ = some (.slice none 0 0) from rfl); have y2 := k10.frozen 0; have y3 := k10.frozen 1; go_simp; clear y0 y1 y2 y3; refine hK _ _ (((BelowX.refl _ _ _).setHi hxp10 0 _).setHi hxp10 1 _) ?_; replace hc := (hc.far (p := ⟨p10, 0, none⟩) (by simp <;> omega) (.int .u64 (bs : Int))).far (p := ⟨p10, 1, none⟩) (by simp <;> omega) (.slice A5 S.size c5); replace o1 := own_setNe (own_setNe o1 k10 (by decide) 0 (.int .u64 (bs : Int))) (k10.set_ 0 (.int .u64 (bs : Int))) (by decide) 1 (.slice A5 S.size c5); replace ho := OwU.far (OwU.far ho k10 (by decide) 0 (.int .u64 (bs : Int))) (k10.set_ 0 (.int .u64 (bs : Int))) (by decide) 1 (.slice A5 S.size c5); replace hv := OwV.setOut (a := ⟨p10, 1, none⟩) (by simp <;> omega) (OwV.setOut (a := ⟨p10, 0, none⟩) (by simp <;> omega) hv (.int .u64 (bs : Int))) (.slice A5 S.size c5); replace k9 := (k9.far (p := ⟨p10, 0, none⟩) (fun e => Blk.ne_ k9 k10 (by decide) e) (.int .u64 (bs : Int))).far (p := ⟨p10, 1, none⟩) (fun e => Blk.ne_ k9 k10 (by decide) e) (.slice A5 S.size c5); replace k10 : Blk _ p10 75 #[.int .u64 (bs : Int), .slice A5 S.size c5] := (k10.set_ 0 (.int .u64 (bs : Int))).set_ 1 (.slice A5 S.size c5); replace hB := setHiB (setHiB hB (show w.heap.size ≤ p10 by omega) 0 (.int .u64 (bs : Int))) (show w.heap.size ≤ p10 by omega) 1 (.slice A5 S.size c5); replace hBx : B_ ≤ ((x.setCell ⟨p10, 0, none⟩ (.int .u64 (bs : Int))).setCell ⟨p10, 1, none⟩ (.slice A5 S.size c5)).heap.size := (by simpa using hBx); generalize hw_ : (x.setCell ⟨p10, 0, none⟩ (.int .u64 (bs : Int))).setCell ⟨p10, 1, none⟩ (.slice A5 S.size c5) = x at *; clear hw_; clear X0 X1; have X0 : ∀ W, BelowX B_ B_ x W → W.cell? ⟨pc, 0, none⟩ = some (.slice A1 l.length c1) := fun W h => ((hc.belowx h hpB (by omega)).cell 0).trans rfl; have X1 : ∀ W, BelowX B_ B_ x W → W.cell? ⟨pc, 1, none⟩ = some (.int .i64 (q : Int)) := fun W h => ((hc.belowx h hpB (by omega)).cell 1).trans rfl
            try simp only [Act.put, List.setIfInBounds_toArray, List.set_cons_zero, List.set_cons_succ]
            refine bx_take (i := 12) (oi := ?oia12x88) (v := ?va12x88) ?hia12x88 (by kernel_rfl) (by kernel_rfl) (by kernel_rfl) hQ ?hwa12x88 ?hya12x88 ?resta12x88
            case hia12x88 => simp only [List.getElem?_toArray, List.getElem?_cons_zero, List.getElem?_cons_succ]; rfl
            case hwa12x88 => rfl
            case hya12x88 => intro W hW; go_simp; with_reducible rfl
            simp only [Act.put, List.setIfInBounds_toArray, List.set_cons_zero, List.set_cons_succ]
            refine wpAnyH_done (by kernel_rfl) ?_ _
            simp only [NoP]
            go_wp2_with fail
            go_meet
            case rel => exact ⟨p9, p10, B_, A5, c5, rfl, rfl, rfl, by omega, by omega, by omega, k9, k10, ho, hcap, hc, o1, hv, hB⟩
          · go_simp
            have b := Ext.al x (.cells #[.slice none 0 0, .int .i64 0] 70); have hxp9 := hBx; replace hc := hc.below b hc.lt; replace o1 := own_call o1 b; replace hv := hv.call b; (try replace k9 := k9.below b k9.lt); (try replace k10 := k10.below b k10.lt); (try replace ho := ho.call b); replace hB := hB.trans (b.mono hB.size); have bx := BelowX.of (Below.mono b hBx) B_; replace hBx := Nat.le_trans hBx b.size; have k9 := Blk.new x 70 #[.slice none 0 0, .int .i64 0]; refine hK _ _ bx ?_; clear b bx; generalize hg_ : x.heap.size = p9 at *; clear hg_; generalize hw_ : x.alloc (.cells #[.slice none 0 0, .int .i64 0] 70) = x at *; clear hw_; clear X0 X1; have X0 : ∀ W, BelowX B_ B_ x W → W.cell? ⟨pc, 0, none⟩ = some (.slice A1 l.length c1) := fun W h => ((hc.belowx h hpB (by omega)).cell 0).trans rfl; have X1 : ∀ W, BelowX B_ B_ x W → W.cell? ⟨pc, 1, none⟩ = some (.int .i64 (q : Int)) := fun W h => ((hc.belowx h hpB (by omega)).cell 1).trans rfl
            try simp only [Act.put, List.setIfInBounds_toArray, List.set_cons_zero, List.set_cons_succ]
            refine bx_step (i := 3) (oi := ?oia3x89) (by kernel_rfl) ?hia3x89 ?hwa3x89 (fun K hK => ?_)
            case hia3x89 => simp only [List.getElem?_toArray, List.getElem?_cons_zero, List.getElem?_cons_succ]; rfl
            case hwa3x89 => rfl
            go_simp
            refine (HU.out _ (own_rd o1)).mono ?_; rintro e x ⟨A5, c5, rfl, ho, hcap, b⟩; replace ho := ho.low (show Bl ≤ _ from by omega); replace hc := hc.below b hc.lt; replace o1 := own_call o1 b; replace hv := hv.call b; (try replace k9 := k9.below b k9.lt); (try replace k10 := k10.below b k10.lt); replace hB := hB.trans (b.mono hB.size); have bx := BelowX.of (Below.mono b hBx) B_; replace hBx := Nat.le_trans hBx b.size; refine hK _ _ bx ?_; clear b bx; clear X0 X1; have X0 : ∀ W, BelowX B_ B_ x W → W.cell? ⟨pc, 0, none⟩ = some (.slice A1 l.length c1) := fun W h => ((hc.belowx h hpB (by omega)).cell 0).trans rfl; have X1 : ∀ W, BelowX B_ B_ x W → W.cell? ⟨pc, 1, none⟩ = some (.int .i64 (q : Int)) := fun W h => ((hc.belowx h hpB (by omega)).cell 1).trans rfl
            try simp only [Act.put, List.setIfInBounds_toArray, List.set_cons_zero, List.set_cons_succ]
            refine bx_take (i := 4) (oi := ?oia4x90) (v := ?va4x90) ?hia4x90 (by kernel_rfl) (by kernel_rfl) (by kernel_rfl) hQ ?hwa4x90 ?hya4x90 ?resta4x90
            case hia4x90 => simp only [List.getElem?_toArray, List.getElem?_cons_zero, List.getElem?_cons_succ]; rfl
            case hwa4x90 => rfl
            case hya4x90 => intro W hW; go_simp; with_reducible rfl
            simp only [Act.put, List.setIfInBounds_toArray, List.set_cons_zero, List.set_cons_succ]
            refine bx_take (i := 5) (oi := ?oia5x91) (v := ?va5x91) ?hia5x91 (by kernel_rfl) (by kernel_rfl) (by kernel_rfl) hQ ?hwa5x91 ?hya5x91 ?resta5x91
            case hia5x91 => simp only [List.getElem?_toArray, List.getElem?_cons_zero, List.getElem?_cons_succ]; rfl
            case hwa5x91 => rfl
            case hya5x91 => intro W hW; go_simp; with_reducible rfl
            simp only [Act.put, List.setIfInBounds_toArray, List.set_cons_zero, List.set_cons_succ]
            refine bx_take (i := 6) (oi := ?oia6x92) (v := ?va6x92) ?hia6x92 (by kernel_rfl) (by kernel_rfl) (by kernel_rfl) hQ ?hwa6x92 ?hya6x92 ?resta6x92
            case hia6x92 => simp only [List.getElem?_toArray, List.getElem?_cons_zero, List.getElem?_cons_succ]; rfl
            case hwa6x92 => rfl
            case hya6x92 => intro W hW; go_simp; with_reducible rfl
            simp only [Act.put, List.setIfInBounds_toArray, List.set_cons_zero, List.set_cons_succ]
            refine bx_take (i := 7) (oi := ?oia7x93) (v := ?va7x93) ?hia7x93 (by kernel_rfl) (by kernel_rfl) (by kernel_rfl) hQ ?hwa7x93 ?hya7x93 ?resta7x93
            case hia7x93 => simp only [List.getElem?_toArray, List.getElem?_cons_zero, List.getElem?_cons_succ]; rfl
            case hwa7x93 => rfl
            case hya7x93 => intro W hW; go_simp; with_reducible rfl
            simp only [Act.put, List.setIfInBounds_toArray, List.set_cons_zero, List.set_cons_succ]
            refine bx_step (i := 10) (oi := ?oia10x94) (by kernel_rfl) ?hia10x94 ?hwa10x94 (fun K hK => ?_)
            case hia10x94 => simp only [List.getElem?_toArray, List.getElem?_cons_zero, List.getElem?_cons_succ]; rfl
            case hwa10x94 => rfl
            have y0 := (k9.cell 0).trans (show _ = some (.slice none 0 0) from rfl); have y1 := (k9.cell 1).trans (show _ = some (.int .i64 0) from rfl); have y2 := k9.frozen 0; have y3 := k9.frozen 1; go_simp; clear y0 y1 y2 y3; refine hK _ _ (((BelowX.refl _ _ _).setHi hxp9 0 _).setHi hxp9 1 _) ?_; replace hc := (hc.far (p := ⟨p9, 0, none⟩) (by simp <;> omega) (.slice A7 n7 c7)).far (p := ⟨p9, 1, none⟩) (by simp <;> omega) (.int .i64 a7); replace o1 := own_setNe (own_setNe o1 k9 (by decide) 0 (.slice A7 n7 c7)) (k9.set_ 0 (.slice A7 n7 c7)) (by decide) 1 (.int .i64 a7); replace ho := OwU.far (OwU.far ho k9 (by decide) 0 (.slice A7 n7 c7)) (k9.set_ 0 (.slice A7 n7 c7)) (by decide) 1 (.int .i64 a7); replace hv := OwV.setOut (a := ⟨p9, 1, none⟩) (by simp <;> omega) (OwV.setOut (a := ⟨p9, 0, none⟩) (by simp <;> omega) hv (.slice A7 n7 c7)) (.int .i64 a7); replace k10 := (k10.far (p := ⟨p9, 0, none⟩) (fun e => Blk.ne_ k10 k9 (by decide) e) (.slice A7 n7 c7)).far (p := ⟨p9, 1, none⟩) (fun e => Blk.ne_ k10 k9 (by decide) e) (.int .i64 a7); replace k9 : Blk _ p9 70 #[.slice A7 n7 c7, .int .i64 a7] := (k9.set_ 0 (.slice A7 n7 c7)).set_ 1 (.int .i64 a7); replace hB := setHiB (setHiB hB (show w.heap.size ≤ p9 by omega) 0 (.slice A7 n7 c7)) (show w.heap.size ≤ p9 by omega) 1 (.int .i64 a7); replace hBx : B_ ≤ ((x.setCell ⟨p9, 0, none⟩ (.slice A7 n7 c7)).setCell ⟨p9, 1, none⟩ (.int .i64 a7)).heap.size := (by simpa using hBx); generalize hw_ : (x.setCell ⟨p9, 0, none⟩ (.slice A7 n7 c7)).setCell ⟨p9, 1, none⟩ (.int .i64 a7) = x at *; clear hw_; clear X0 X1; have X0 : ∀ W, BelowX B_ B_ x W → W.cell? ⟨pc, 0, none⟩ = some (.slice A1 l.length c1) := fun W h => ((hc.belowx h hpB (by omega)).cell 0).trans rfl; have X1 : ∀ W, BelowX B_ B_ x W → W.cell? ⟨pc, 1, none⟩ = some (.int .i64 (q : Int)) := fun W h => ((hc.belowx h hpB (by omega)).cell 1).trans rfl
            try simp only [Act.put, List.setIfInBounds_toArray, List.set_cons_zero, List.set_cons_succ]
            refine bx_step (i := 11) (oi := ?oia11x95) (by kernel_rfl) ?hia11x95 ?hwa11x95 (fun K hK => ?_)
            case hia11x95 => simp only [List.getElem?_toArray, List.getElem?_cons_zero, List.getElem?_cons_succ]; rfl
            case hwa11x95 => rfl
            have y0 := (k10.cell 0).trans (show _ = some (.int .u64 0) from rfl); have y1 := (k10.cell 1).trans (show _ = some (.slice none 0 0) from rfl); have y2 := k10.frozen 0; have y3 := k10.frozen 1; go_simp; clear y0 y1 y2 y3; refine hK _ _ (((BelowX.refl _ _ _).setHi hxp10 0 _).setHi hxp10 1 _) ?_; replace hc := (hc.far (p := ⟨p10, 0, none⟩) (by simp <;> omega) (.int .u64 (bs : Int))).far (p := ⟨p10, 1, none⟩) (by simp <;> omega) (.slice A5 S.size c5); replace o1 := own_setNe (own_setNe o1 k10 (by decide) 0 (.int .u64 (bs : Int))) (k10.set_ 0 (.int .u64 (bs : Int))) (by decide) 1 (.slice A5 S.size c5); replace ho := OwU.far (OwU.far ho k10 (by decide) 0 (.int .u64 (bs : Int))) (k10.set_ 0 (.int .u64 (bs : Int))) (by decide) 1 (.slice A5 S.size c5); replace hv := OwV.setOut (a := ⟨p10, 1, none⟩) (by simp <;> omega) (OwV.setOut (a := ⟨p10, 0, none⟩) (by simp <;> omega) hv (.int .u64 (bs : Int))) (.slice A5 S.size c5); replace k9 := (k9.far (p := ⟨p10, 0, none⟩) (fun e => Blk.ne_ k9 k10 (by decide) e) (.int .u64 (bs : Int))).far (p := ⟨p10, 1, none⟩) (fun e => Blk.ne_ k9 k10 (by decide) e) (.slice A5 S.size c5); replace k10 : Blk _ p10 75 #[.int .u64 (bs : Int), .slice A5 S.size c5] := (k10.set_ 0 (.int .u64 (bs : Int))).set_ 1 (.slice A5 S.size c5); replace hB := setHiB (setHiB hB (show w.heap.size ≤ p10 by omega) 0 (.int .u64 (bs : Int))) (show w.heap.size ≤ p10 by omega) 1 (.slice A5 S.size c5); replace hBx : B_ ≤ ((x.setCell ⟨p10, 0, none⟩ (.int .u64 (bs : Int))).setCell ⟨p10, 1, none⟩ (.slice A5 S.size c5)).heap.size := (by simpa using hBx); generalize hw_ : (x.setCell ⟨p10, 0, none⟩ (.int .u64 (bs : Int))).setCell ⟨p10, 1, none⟩ (.slice A5 S.size c5) = x at *; clear hw_; clear X0 X1; have X0 : ∀ W, BelowX B_ B_ x W → W.cell? ⟨pc, 0, none⟩ = some (.slice A1 l.length c1) := fun W h => ((hc.belowx h hpB (by omega)).cell 0).trans rfl; have X1 : ∀ W, BelowX B_ B_ x W → W.cell? ⟨pc, 1, none⟩ = some (.int .i64 (q : Int)) := fun W h => ((hc.belowx h hpB (by omega)).cell 1).trans rfl
            try simp only [Act.put, List.setIfInBounds_toArray, List.set_cons_zero, List.set_cons_succ]
            refine bx_take (i := 12) (oi := ?oia12x96) (v := ?va12x96) ?hia12x96 (by kernel_rfl) (by kernel_rfl) (by kernel_rfl) hQ ?hwa12x96 ?hya12x96 ?resta12x96
            case hia12x96 => simp only [List.getElem?_toArray, List.getElem?_cons_zero, List.getElem?_cons_succ]; rfl
            case hwa12x96 => rfl
            case hya12x96 => intro W hW; go_simp; with_reducible rfl
            simp only [Act.put, List.setIfInBounds_toArray, List.set_cons_zero, List.set_cons_succ]
            refine wpAnyH_done (by kernel_rfl) ?_ _
            simp only [NoP]
            go_wp2_with fail
            go_meet
            case rel => exact ⟨p9, p10, B_, A5, c5, rfl, rfl, rfl, by omega, by omega, by omega, k9, k10, ho, hcap, hc, o1, hv, hB⟩
        · go_simp
          have b := Ext.al x (.cells #[.slice none 0 0, .int .i64 0] 70); have hxp9 := hBx; replace hc := hc.below b hc.lt; replace o1 := own_call o1 b; replace hv := hv.call b; (try replace k9 := k9.below b k9.lt); (try replace k10 := k10.below b k10.lt); (try replace ho := ho.call b); replace hB := hB.trans (b.mono hB.size); have bx := BelowX.of (Below.mono b hBx) B_; replace hBx := Nat.le_trans hBx b.size; have k9 := Blk.new x 70 #[.slice none 0 0, .int .i64 0]; refine hK _ _ bx ?_; clear b bx; generalize hg_ : x.heap.size = p9 at *; clear hg_; generalize hw_ : x.alloc (.cells #[.slice none 0 0, .int .i64 0] 70) = x at *; clear hw_; clear X0 X1; have X0 : ∀ W, BelowX B_ B_ x W → W.cell? ⟨pc, 0, none⟩ = some (.slice A1 l.length c1) := fun W h => ((hc.belowx h hpB (by omega)).cell 0).trans rfl; have X1 : ∀ W, BelowX B_ B_ x W → W.cell? ⟨pc, 1, none⟩ = some (.int .i64 (q : Int)) := fun W h => ((hc.belowx h hpB (by omega)).cell 1).trans rfl
          try simp only [Act.put, List.setIfInBounds_toArray, List.set_cons_zero, List.set_cons_succ]
          refine bx_step (i := 2) (oi := ?oia2x97) (by kernel_rfl) ?hia2x97 ?hwa2x97 (fun K hK => ?_)
          case hia2x97 => simp only [List.getElem?_toArray, List.getElem?_cons_zero, List.getElem?_cons_succ]; rfl
          case hwa2x97 => rfl
          go_simp
          refine (HBC.out _).mono ?_; rintro e wq ⟨rfl, rfl⟩; refine hK _ _ (BelowX.refl _ _ _) ?_
          try simp only [Act.put, List.setIfInBounds_toArray, List.set_cons_zero, List.set_cons_succ]
          refine bx_step (i := 3) (oi := ?oia3x98) (by kernel_rfl) ?hia3x98 ?hwa3x98 (fun K hK => ?_)
          case hia3x98 => simp only [List.getElem?_toArray, List.getElem?_cons_zero, List.getElem?_cons_succ]; rfl
          case hwa3x98 => rfl
          go_simp
          refine (HU.out _ (own_rd o1)).mono ?_; rintro e x ⟨A5, c5, rfl, ho, hcap, b⟩; replace ho := ho.low (show Bl ≤ _ from by omega); replace hc := hc.below b hc.lt; replace o1 := own_call o1 b; replace hv := hv.call b; (try replace k9 := k9.below b k9.lt); (try replace k10 := k10.below b k10.lt); replace hB := hB.trans (b.mono hB.size); have bx := BelowX.of (Below.mono b hBx) B_; replace hBx := Nat.le_trans hBx b.size; refine hK _ _ bx ?_; clear b bx; clear X0 X1; have X0 : ∀ W, BelowX B_ B_ x W → W.cell? ⟨pc, 0, none⟩ = some (.slice A1 l.length c1) := fun W h => ((hc.belowx h hpB (by omega)).cell 0).trans rfl; have X1 : ∀ W, BelowX B_ B_ x W → W.cell? ⟨pc, 1, none⟩ = some (.int .i64 (q : Int)) := fun W h => ((hc.belowx h hpB (by omega)).cell 1).trans rfl
          try simp only [Act.put, List.setIfInBounds_toArray, List.set_cons_zero, List.set_cons_succ]
          refine bx_take (i := 4) (oi := ?oia4x99) (v := ?va4x99) ?hia4x99 (by kernel_rfl) (by kernel_rfl) (by kernel_rfl) hQ ?hwa4x99 ?hya4x99 ?resta4x99
          case hia4x99 => simp only [List.getElem?_toArray, List.getElem?_cons_zero, List.getElem?_cons_succ]; rfl
          case hwa4x99 => rfl
          case hya4x99 => intro W hW; go_simp; with_reducible rfl
          simp only [Act.put, List.setIfInBounds_toArray, List.set_cons_zero, List.set_cons_succ]
          refine bx_take (i := 5) (oi := ?oia5x100) (v := ?va5x100) ?hia5x100 (by kernel_rfl) (by kernel_rfl) (by kernel_rfl) hQ ?hwa5x100 ?hya5x100 ?resta5x100
          case hia5x100 => simp only [List.getElem?_toArray, List.getElem?_cons_zero, List.getElem?_cons_succ]; rfl
          case hwa5x100 => rfl
          case hya5x100 => intro W hW; go_simp; with_reducible rfl
          simp only [Act.put, List.setIfInBounds_toArray, List.set_cons_zero, List.set_cons_succ]
          refine bx_take (i := 6) (oi := ?oia6x101) (v := ?va6x101) ?hia6x101 (by kernel_rfl) (by kernel_rfl) (by kernel_rfl) hQ ?hwa6x101 ?hya6x101 ?resta6x101
          case hia6x101 => simp only [List.getElem?_toArray, List.getElem?_cons_zero, List.getElem?_cons_succ]; rfl
          case hwa6x101 => rfl
          case hya6x101 => intro W hW; go_simp; with_reducible rfl
          simp only [Act.put, List.setIfInBounds_toArray, List.set_cons_zero, List.set_cons_succ]
          refine bx_take (i := 7) (oi := ?oia7x102) (v := ?va7x102) ?hia7x102 (by kernel_rfl) (by kernel_rfl) (by kernel_rfl) hQ ?hwa7x102 ?hya7x102 ?resta7x102
          case hia7x102 => simp only [List.getElem?_toArray, List.getElem?_cons_zero, List.getElem?_cons_succ]; rfl
          case hwa7x102 => rfl
          case hya7x102 => intro W hW; go_simp; with_reducible rfl
          simp only [Act.put, List.setIfInBounds_toArray, List.set_cons_zero, List.set_cons_succ]
          refine bx_step (i := 10) (oi := ?oia10x103) (by kernel_rfl) ?hia10x103 ?hwa10x103 (fun K hK => ?_)
          case hia10x103 => simp only [List.getElem?_toArray, List.getElem?_cons_zero, List.getElem?_cons_succ]; rfl
          case hwa10x103 => rfl
          have y0 := (k9.cell 0).trans (show _ = some (.slice none 0 0) from rfl); have y1 := (k9.cell 1).trans (show _ = some (.int .i64 0) from rfl); have y2 := k9.frozen 0; have y3 := k9.frozen 1; go_simp; clear y0 y1 y2 y3; refine hK _ _ (((BelowX.refl _ _ _).setHi hxp9 0 _).setHi hxp9 1 _) ?_; replace hc := (hc.far (p := ⟨p9, 0, none⟩) (by simp <;> omega) (.slice A7 n7 c7)).far (p := ⟨p9, 1, none⟩) (by simp <;> omega) (.int .i64 a7); replace o1 := own_setNe (own_setNe o1 k9 (by decide) 0 (.slice A7 n7 c7)) (k9.set_ 0 (.slice A7 n7 c7)) (by decide) 1 (.int .i64 a7); replace ho := OwU.far (OwU.far ho k9 (by decide) 0 (.slice A7 n7 c7)) (k9.set_ 0 (.slice A7 n7 c7)) (by decide) 1 (.int .i64 a7); replace hv := OwV.setOut (a := ⟨p9, 1, none⟩) (by simp <;> omega) (OwV.setOut (a := ⟨p9, 0, none⟩) (by simp <;> omega) hv (.slice A7 n7 c7)) (.int .i64 a7); replace k10 := (k10.far (p := ⟨p9, 0, none⟩) (fun e => Blk.ne_ k10 k9 (by decide) e) (.slice A7 n7 c7)).far (p := ⟨p9, 1, none⟩) (fun e => Blk.ne_ k10 k9 (by decide) e) (.int .i64 a7); replace k9 : Blk _ p9 70 #[.slice A7 n7 c7, .int .i64 a7] := (k9.set_ 0 (.slice A7 n7 c7)).set_ 1 (.int .i64 a7); replace hB := setHiB (setHiB hB (show w.heap.size ≤ p9 by omega) 0 (.slice A7 n7 c7)) (show w.heap.size ≤ p9 by omega) 1 (.int .i64 a7); replace hBx : B_ ≤ ((x.setCell ⟨p9, 0, none⟩ (.slice A7 n7 c7)).setCell ⟨p9, 1, none⟩ (.int .i64 a7)).heap.size := (by simpa using hBx); generalize hw_ : (x.setCell ⟨p9, 0, none⟩ (.slice A7 n7 c7)).setCell ⟨p9, 1, none⟩ (.int .i64 a7) = x at *; clear hw_; clear X0 X1; have X0 : ∀ W, BelowX B_ B_ x W → W.cell? ⟨pc, 0, none⟩ = some (.slice A1 l.length c1) := fun W h => ((hc.belowx h hpB (by omega)).cell 0).trans rfl; have X1 : ∀ W, BelowX B_ B_ x W → W.cell? ⟨pc, 1, none⟩ = some (.int .i64 (q : Int)) := fun W h => ((hc.belowx h hpB (by omega)).cell 1).trans rfl
          try simp only [Act.put, List.setIfInBounds_toArray, List.set_cons_zero, List.set_cons_succ]
          refine bx_step (i := 11) (oi := ?oia11x104) (by kernel_rfl) ?hia11x104 ?hwa11x104 (fun K hK => ?_)
          case hia11x104 => simp only [List.getElem?_toArray, List.getElem?_cons_zero, List.getElem?_cons_succ]; rfl
          case hwa11x104 => rfl
          have y0 := (k10.cell 0).trans (show _ = some (.int .u64 0) from rfl); have y1 := (k10.cell 1).trans (show _ = some (.slice none 0 0) from rfl); have y2 := k10.frozen 0; have y3 := k10.frozen 1; go_simp; clear y0 y1 y2 y3; refine hK _ _ (((BelowX.refl _ _ _).setHi hxp10 0 _).setHi hxp10 1 _) ?_; replace hc := (hc.far (p := ⟨p10, 0, none⟩) (by simp <;> omega) (.int .u64 (bs : Int))).far (p := ⟨p10, 1, none⟩) (by simp <;> omega) (.slice A5 S.size c5); replace o1 := own_setNe (own_setNe o1 k10 (by decide) 0 (.int .u64 (bs : Int))) (k10.set_ 0 (.int .u64 (bs : Int))) (by decide) 1 (.slice A5 S.size c5); replace ho := OwU.far (OwU.far ho k10 (by decide) 0 (.int .u64 (bs : Int))) (k10.set_ 0 (.int .u64 (bs : Int))) (by decide) 1 (.slice A5 S.size c5); replace hv := OwV.setOut (a := ⟨p10, 1, none⟩) (by simp <;> omega) (OwV.setOut (a := ⟨p10, 0, none⟩) (by simp <;> omega) hv (.int .u64 (bs : Int))) (.slice A5 S.size c5); replace k9 := (k9.far (p := ⟨p10, 0, none⟩) (fun e => Blk.ne_ k9 k10 (by decide) e) (.int .u64 (bs : Int))).far (p := ⟨p10, 1, none⟩) (fun e => Blk.ne_ k9 k10 (by decide) e) (.slice A5 S.size c5); replace k10 : Blk _ p10 75 #[.int .u64 (bs : Int), .slice A5 S.size c5] := (k10.set_ 0 (.int .u64 (bs : Int))).set_ 1 (.slice A5 S.size c5); replace hB := setHiB (setHiB hB (show w.heap.size ≤ p10 by omega) 0 (.int .u64 (bs : Int))) (show w.heap.size ≤ p10 by omega) 1 (.slice A5 S.size c5); replace hBx : B_ ≤ ((x.setCell ⟨p10, 0, none⟩ (.int .u64 (bs : Int))).setCell ⟨p10, 1, none⟩ (.slice A5 S.size c5)).heap.size := (by simpa using hBx); generalize hw_ : (x.setCell ⟨p10, 0, none⟩ (.int .u64 (bs : Int))).setCell ⟨p10, 1, none⟩ (.slice A5 S.size c5) = x at *; clear hw_; clear X0 X1; have X0 : ∀ W, BelowX B_ B_ x W → W.cell? ⟨pc, 0, none⟩ = some (.slice A1 l.length c1) := fun W h => ((hc.belowx h hpB (by omega)).cell 0).trans rfl; have X1 : ∀ W, BelowX B_ B_ x W → W.cell? ⟨pc, 1, none⟩ = some (.int .i64 (q : Int)) := fun W h => ((hc.belowx h hpB (by omega)).cell 1).trans rfl
          try simp only [Act.put, List.setIfInBounds_toArray, List.set_cons_zero, List.set_cons_succ]
          refine bx_take (i := 12) (oi := ?oia12x105) (v := ?va12x105) ?hia12x105 (by kernel_rfl) (by kernel_rfl) (by kernel_rfl) hQ ?hwa12x105 ?hya12x105 ?resta12x105
          case hia12x105 => simp only [List.getElem?_toArray, List.getElem?_cons_zero, List.getElem?_cons_succ]; rfl
          case hwa12x105 => rfl
          case hya12x105 => intro W hW; go_simp; with_reducible rfl
          simp only [Act.put, List.setIfInBounds_toArray, List.set_cons_zero, List.set_cons_succ]
          refine wpAnyH_done (by kernel_rfl) ?_ _
          simp only [NoP]
          go_wp2_with fail
          go_meet
          case rel => exact ⟨p9, p10, B_, A5, c5, rfl, rfl, rfl, by omega, by omega, by omega, k9, k10, ho, hcap, hc, o1, hv, hB⟩
    case rest =>
      obtain ⟨p9, p10, H, A5, c5, rfl, rfl, rfl, hH9, hH10, hBlH, k9, k10, ho, hcap, hc, o1, hv, hB⟩ := hcut
      cases hff : f
      · have HFF := Lib.hid hff
        have HV := Lib.hid (rsb_no (l := l) (by
          have h1 : utE l (q : Int) 4096 ≠ 0 := by have := HT.out.2.2; rw [hff, decide_eq_false_iff_not] at this; exact this
          rw [HB.out, HR1.out, HM.out, rs_no h1]; rfl))
        subst hff
        have z701 : wc.cell? ⟨pc, 0, none⟩ = some (.slice A1 l.length c1) := (hc.cell 0).trans rfl
        have z702 := hc.frozen 0
        have z703 : wc.cell? ⟨pc, 1, none⟩ = some (.int .i64 ((q : Int))) := (hc.cell 1).trans rfl
        have z704 := hc.frozen 1
        have z705 := hc.lt
        go_wp2_with fail
        go_ret2
        unfold RsP
        exact ⟨none, 0, by rw [HV.out.1, HV.out.2]; rfl, by rw [HV.out.1]; exact (OwV.nil _ _ _ (Nat.zero_le _)).top, (by have hs_ := hB.size; repeat (first | with_reducible exact hB | with_reducible (refine Below.setCell ?_ (by simp <;> omega) _) | with_reducible (refine Below.alloc ?_ (by first | exact hs_ | (simp <;> omega)) _) | with_reducible (refine Below.drew ?_)))⟩
      · have h1 : utE l (q : Int) 4096 = 0 := by have := HT.out.2.2; rw [hff, decide_eq_true_eq] at this; exact this
        have hz := ut_zero h1
        have hok := ut_ok (l := l) (a := (q : Int)) (mo := 4096) A1 l.length c1 h1
        obtain ⟨u, hu⟩ : ∃ u, (uvR l (q : Int)).2.2 = u := ⟨_, rfl⟩
        obtain ⟨y, hy⟩ : ∃ y, (uvR l (q : Int)).2.1 = y := ⟨_, rfl⟩
        rw [hu, hy, HT.out.1, HT.out.2.1, Int.toNat_natCast] at hok
        rw [hu, hy] at hz
        obtain ⟨q2, hq2⟩ : ∃ q2, q + u + y = q2 := ⟨_, rfl⟩
        have hq2l : q2 ≤ l.length := by omega
        obtain ⟨T, hT⟩ : ∃ T, (l.drop (q + u)).take y = T := ⟨_, rfl⟩
        have hST : S.data.toList = T := by rw [hok.1, ← hT]
        have hSz : S.size = T.length := by rw [← hST]; simp
        rw [hST] at ho
        rw [hSz] at ho hcap k10
        have he := hok.2
        rw [show (q : Int) + (u : Int) + (y : Int) = (q2 : Int) from by omega] at he
        have hW := rs_yes (k := N - (j + 1)) (g := j) h1 hu hy
        rw [hq2, hT, HBS.out, ← HM.out] at hW
        have HN1 := Lib.hid (show (rsR l N 0 b).1 = (rsR l (N - (j + 1)) (j + 1) q2).1 from by rw [HR1.out, hW])
        have HN2 := Lib.hid (show (rsR l N 0 b).1 = true → (rsR l N 0 b).2.1 = (done ++ [(bs, T)]) ++ (rsR l (N - (j + 1)) (j + 1) q2).2.1 ∧ (rsR l N 0 b).2.2 = (rsR l (N - (j + 1)) (j + 1) q2).2.2 from fun h => by
          obtain ⟨e1, e2⟩ := HR2.out h
          rw [e1, e2, hW]
          simp)
        replace he := he.symm
        injection he with he
        simp at he
        obtain ⟨⟨rfl, rfl, rfl⟩, rfl⟩ := he
        subst hff
        clear hok hu hy hz h1 hq2 hT hST hSz hW
        have z701 : wc.cell? ⟨pc, 0, none⟩ = some (.slice A1 l.length c1) := (hc.cell 0).trans rfl
        have z702 := hc.frozen 0
        have z703 : wc.cell? ⟨pc, 1, none⟩ = some (.int .i64 ((q : Int))) := (hc.cell 1).trans rfl
        have z704 := hc.frozen 1
        have z705 : wc.cell? ⟨p9, 0, none⟩ = some (.slice A1 l.length c1) := (k9.cell 0).trans rfl
        have z706 := k9.frozen 0
        have z707 : wc.cell? ⟨p9, 1, none⟩ = some (.int .i64 (q2 : Int)) := (k9.cell 1).trans rfl
        have z708 := k9.frozen 1
        have z709 : wc.cell? ⟨p10, 0, none⟩ = some (.int .u64 (bs : Int)) := (k10.cell 0).trans rfl
        have z710 := k10.frozen 0
        have z711 : wc.cell? ⟨p10, 1, none⟩ = some (.slice A5 T.length c5) := (k10.cell 1).trans rfl
        have z712 := k10.frozen 1
        have z713 := hc.lt
        have z714 := k9.lt
        have z715 := k10.lt
        go_wp2_with fail
        refine s_go (KeepS [(p9, 70, #[.slice A1 l.length c1, .int .i64 (q2 : Int)]), (p10, 75, #[.int .u64 (bs : Int), .slice A5 T.length c5])]) (by kernel_rfl) (fun hQ0 x b => ?_)
        replace hc := hc.below b hc.lt
        replace k9 := k9.below b k9.lt
        replace k10 := k10.below b k10.lt
        replace o1 := own_call o1 b
        replace ho := ho.call b
        replace hv := hv.call b
        replace hB := hB.trans (b.mono hB.size)
        clear z701 z702 z703 z704 z705 z706 z707 z708 z709 z710 z711 z712 z713 z714 z715
        clear b
        refine ⟨KeepS.cons k9 (KeepS.cons k10 (KeepS.nil _)), ?_⟩
        have hQ := And.intro hQ0 (KeepS.cons k9 (KeepS.cons k10 (KeepS.nil x)))
        have X0 : ∀ W, KeepS [(p9, 70, #[.slice A1 l.length c1, .int .i64 (q2 : Int)]), (p10, 75, #[.int .u64 (bs : Int), .slice A5 T.length c5])] W → W.cell? ⟨p9, 0, none⟩ = some (.slice A1 l.length c1) := fun W h => (h.hd.cell 0).trans rfl
        have X1 : ∀ W, KeepS [(p9, 70, #[.slice A1 l.length c1, .int .i64 (q2 : Int)]), (p10, 75, #[.int .u64 (bs : Int), .slice A5 T.length c5])] W → W.cell? ⟨p9, 1, none⟩ = some (.int .i64 (q2 : Int)) := fun W h => (h.hd.cell 1).trans rfl
        have X2 : ∀ W, KeepS [(p9, 70, #[.slice A1 l.length c1, .int .i64 (q2 : Int)]), (p10, 75, #[.int .u64 (bs : Int), .slice A5 T.length c5])] W → W.cell? ⟨p10, 0, none⟩ = some (.int .u64 (bs : Int)) := fun W h => (h.tl.hd.cell 0).trans rfl
        have X3 : ∀ W, KeepS [(p9, 70, #[.slice A1 l.length c1, .int .i64 (q2 : Int)]), (p10, 75, #[.int .u64 (bs : Int), .slice A5 T.length c5])] W → W.cell? ⟨p10, 1, none⟩ = some (.slice A5 T.length c5) := fun W h => (h.tl.hd.cell 1).trans rfl
        refine s_take (i := 0) (oi := ?oic0) (v := ?vc0) ?hic0 (by kernel_rfl) (by kernel_rfl) (by kernel_rfl) hQ ?hwc0 ?hyc0 ?restc0
        case hic0 => simp only [List.getElem?_toArray, List.getElem?_cons_zero]; rfl
        case hwc0 => rfl
        case hyc0 => intro W hW; go_simp; with_reducible rfl
        simp only [Act.put, List.setIfInBounds_toArray, List.set_cons_zero, List.set_cons_succ]
        refine s_take (i := 1) (oi := ?oic1) (v := ?vc1) ?hic1 (by kernel_rfl) (by kernel_rfl) (by kernel_rfl) hQ ?hwc1 ?hyc1 ?restc1
        case hic1 => simp only [List.getElem?_toArray, List.getElem?_cons_zero, List.getElem?_cons_succ]; rfl
        case hwc1 => rfl
        case hyc1 => intro W hW; go_simp; with_reducible rfl
        simp only [Act.put, List.setIfInBounds_toArray, List.set_cons_zero, List.set_cons_succ]
        refine s_take (i := 2) (oi := ?oic2) (v := ?vc2) ?hic2 (by kernel_rfl) (by kernel_rfl) (by kernel_rfl) hQ ?hwc2 ?hyc2 ?restc2
        case hic2 => simp only [List.getElem?_toArray, List.getElem?_cons_zero, List.getElem?_cons_succ]; rfl
        case hwc2 => rfl
        case hyc2 => intro W hW; go_simp; with_reducible rfl
        simp only [Act.put, List.setIfInBounds_toArray, List.set_cons_zero, List.set_cons_succ]
        refine s_step (i := 3) (oi := ?oic3) (by kernel_rfl) ?hic3 ?hwc3 (fun K hK => ?_)
        case hic3 => simp only [List.getElem?_toArray, List.getElem?_cons_zero, List.getElem?_cons_succ]; rfl
        case hwc3 => rfl
        go_simp
        have b := Ext.al x (.cells #[.int .u64 (bs : Int), .slice A5 T.length c5] 75); have R7 := reads_two x (.int .u64 (bs : Int)) (.slice A5 T.length c5) 75; replace hc := hc.below b hc.lt; replace k9 := k9.below b k9.lt; replace k10 := k10.below b k10.lt; replace o1 := own_call o1 b; replace ho := ho.call b; replace hv := hv.call b; replace hB := hB.trans (b.mono hB.size); refine hK _ _ (KeepS.cons k9 (KeepS.cons k10 (KeepS.nil _))) ?_; clear b; generalize hg_ : x.heap.size = g7 at *; generalize hw_ : x.alloc (.cells #[.int .u64 (bs : Int), .slice A5 T.length c5] 75) = x at *; clear hg_ hw_; obtain ⟨v1, vh, vl, vs, v2, v3, v4, v5⟩ := hv; clear hQ; have hQ := And.intro hQ0 (KeepS.cons k9 (KeepS.cons k10 (KeepS.nil x)))
        try simp only [Act.put, List.setIfInBounds_toArray, List.set_cons_zero, List.set_cons_succ]
        refine s_step (i := 4) (oi := ?oic4) (by kernel_rfl) ?hic4 ?hwc4 (fun K hK => ?_)
        case hic4 => simp only [List.getElem?_toArray, List.getElem?_cons_zero, List.getElem?_cons_succ]; rfl
        case hwc4 => rfl
        (refine wp_app (.tmp 43) (.tmp 45) _ (by rfl) slRG Bl _ j vs.flatten (by rfl) v4 _ _ 1 _ [.int .u64 (bs : Int), .slice A5 T.length c5] (by rfl) R7 (by simp [Value.oneCell']) (by omega) (by omega) ?_; intro A8 c8 x o8 hg8 b8 hc8; have hv8 := OwV.snoc (p := (bs, T)) v1 v2 v3 v4 v5 ho hcap hb64 o8 hg8; replace hc := hc.below b8 (by omega); replace o1 := own_grow o1 v4 (by decide) hg8; replace k9 := k9.grown hg8 (fun e => own_blk_ne v4 k9 (by decide) e.symm); replace k10 := k10.grown hg8 (fun e => by have := vl _ e.symm; omega); replace hB := hB.trans (b8.mono hBl3); refine hK _ _ (KeepS.cons k9 (KeepS.cons k10 (KeepS.nil _))) ?_; clear hQ; have hQ := And.intro hQ0 (KeepS.cons k9 (KeepS.cons k10 (KeepS.nil x))))
        try simp only [Act.put, List.setIfInBounds_toArray, List.set_cons_zero, List.set_cons_succ]
        refine s_step (i := 5) (oi := ?oic5) (by kernel_rfl) ?hic5 ?hwc5 (fun K hK => ?_)
        case hic5 => simp only [List.getElem?_toArray, List.getElem?_cons_zero, List.getElem?_cons_succ]; rfl
        case hwc5 => rfl
        have y0 := (hc.cell 0).trans (show _ = some (.slice A1 l.length c1) from rfl); have y1 := (hc.cell 1).trans (show _ = some (.int .i64 ((q : Int))) from rfl); have y2 := hc.frozen 0; have y3 := hc.frozen 1; go_simp; clear y0 y1 y2 y3; replace k9 := ((k9.far (p := ⟨pc, 0, none⟩) (by simp <;> omega) (.slice A1 l.length c1)).far (p := ⟨pc, 1, none⟩) (by simp <;> omega) (.int .i64 ((q2 : Int)))); replace k10 := ((k10.far (p := ⟨pc, 0, none⟩) (by simp <;> omega) (.slice A1 l.length c1)).far (p := ⟨pc, 1, none⟩) (by simp <;> omega) (.int .i64 ((q2 : Int)))); refine hK _ _ (KeepS.cons k9 (KeepS.cons k10 (KeepS.nil _))) ?_; replace o1 := own_setNe (own_setNe o1 hc (by decide) 0 (.slice A1 l.length c1)) (hc.set_ 0 (.slice A1 l.length c1)) (by decide) 1 (.int .i64 ((q2 : Int))); replace hv8 := OwV.setOut (a := ⟨pc, 1, none⟩) (by simp <;> omega) (OwV.setOut (a := ⟨pc, 0, none⟩) (by simp <;> omega) hv8 (.slice A1 l.length c1)) (.int .i64 ((q2 : Int))); replace hB := setHiB (setHiB hB (show w.heap.size ≤ pc by omega) 0 (.slice A1 l.length c1)) (show w.heap.size ≤ pc by omega) 1 (.int .i64 ((q2 : Int))); replace hc : Blk _ pc 70 #[.slice A1 l.length c1, .int .i64 ((q2 : Int))] := (hc.set_ 0 (.slice A1 l.length c1)).set_ 1 (.int .i64 ((q2 : Int))); generalize hw_ : (x.setCell ⟨pc, 0, none⟩ (.slice A1 l.length c1)).setCell ⟨pc, 1, none⟩ (.int .i64 ((q2 : Int))) = x at *; clear hw_; clear hQ; have hQ := And.intro hQ0 (KeepS.cons k9 (KeepS.cons k10 (KeepS.nil x)))
        try simp only [Act.put, List.setIfInBounds_toArray, List.set_cons_zero, List.set_cons_succ]
        refine s_take (i := 6) (oi := ?oic6) (v := ?vc6) ?hic6 (by kernel_rfl) (by kernel_rfl) (by kernel_rfl) hQ ?hwc6 ?hyc6 ?restc6
        case hic6 => simp only [List.getElem?_toArray, List.getElem?_cons_zero, List.getElem?_cons_succ]; rfl
        case hwc6 => rfl
        case hyc6 => intro W hW; go_simp; with_reducible rfl
        simp only [Act.put, List.setIfInBounds_toArray, List.set_cons_zero, List.set_cons_succ]
        refine wpAnyH_done (by kernel_rfl) ?_ _
        simp only [NoP]
        go_wp2_with fail
        go_roundw
        case rel => exact ⟨j + 1, q2, done ++ [(bs, T)], A8, c8, by omega, by go_num, rfl, by rw [List.length_append, HDL.out]; rfl, hq2l, HN1.out, HN2.out, hc, o1, hv8.top, hB, by have := k9.lt; omega⟩
        case measure => simp [intOf]; omega

end Go.Proofs.Ytldaijkcmnnjpaa
