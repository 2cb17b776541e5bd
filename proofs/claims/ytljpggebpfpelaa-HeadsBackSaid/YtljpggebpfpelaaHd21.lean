/- What is written is read: the readers on the writers' bytes; again. -/
import Derived.Test.YtljpggebpfpelaaHd19
import Derived.Test.YtljpggebpfpelaaHd20
namespace Go.Proofs.Ytljpggebpfpelaa
open Go.RowKit Wire
set_option linter.unusedVariables false

theorem rhd_len {L : List Rtn} (h : hsB L = true) : (hsL L).length ≤ 200000 := by have := (hsL_len (hsB_n h).2.1).2; omega

set_option maxRecDepth 100000 in
set_option maxHeartbeats 1600000 in
theorem readEndedBack (x : Nat) (f s : Int) (A : Option Addr) (c : Nat) (hh : enB x f s = true) (w : World) (hr : Rb w A (endL x f s).length (endL x f s)) :
    Calls Try.prog 12 #[.slice A (endL x f s).length c] w fun e w' => e = .returned (.tuple #[endV x f s, .int .i64 0]) ∧ Below w.heap.size w w' := by
  refine (readEnded_any A _ c _ w hr (by have h1 := vry_len (dbl f); have h2 := vry_len s.toNat; simp only [endL, List.length_cons, List.length_append]; omega)).mono ?_
  rintro e w1 ⟨hq, b⟩
  rw [red_mk hh] at hq
  rcases hq with ⟨h1, rfl⟩ | ⟨x', f', s', h1, rfl⟩
  · cases h1
  · injection h1 with h1
    injection h1 with e1 h1
    injection h1 with e2 e3
    subst e1 e2 e3
    exact ⟨rfl, b⟩

set_option maxRecDepth 100000 in
set_option maxHeartbeats 1600000 in
theorem readHeadsBack (L : List Rtn) (A : Option Addr) (c : Nat) (hh : hsB L = true) (hx : ∀ x ∈ L, rtOk x) (w : World) (hr : Rb w A (hsL L).length (hsL L)) :
    Calls Try.prog 14 #[.slice A (hsL L).length c] w fun e w' => ∃ A' c', e = .returned (.tuple #[.slice A' L.length c', .int .i64 0]) ∧ RdT w' A' L.length L ∧ Below w.heap.size w w' := by
  refine (readHeads_any A _ c _ w hr (rhd_len hh)).mono ?_
  rintro e w1 ⟨hq, b⟩
  rw [rhd_mk hx hh] at hq
  rcases hq with ⟨h1, rfl⟩ | ⟨L', A', c', h1, rfl, hL⟩
  · cases h1
  · injection h1 with h1
    subst h1
    exact ⟨A', c', rfl, hL, b⟩

set_option maxRecDepth 100000 in
set_option maxHeartbeats 1600000 in
theorem readChainsBack (LL : List (List Nat)) (A : Option Addr) (c : Nat) (hh : csB LL = true) (w : World) (hr : Rb w A (csL LL).length (csL LL)) :
    Calls Try.prog 17 #[.slice A (csL LL).length c] w fun e w' => ∃ A' c', e = .returned (.tuple #[.slice A' LL.length c', .int .i64 0]) ∧ RdC w' A' LL.length LL ∧ Below w.heap.size w w' := by
  refine (readChains_any A _ c _ w hr (by have := csL_len hh; omega)).mono ?_
  rintro e w1 ⟨hq, b⟩
  rw [rch_mk hh] at hq
  rcases hq with ⟨h1, rfl⟩ | ⟨L', A', c', h1, rfl, hL⟩
  · cases h1
  · injection h1 with h1
    subst h1
    exact ⟨A', c', rfl, hL, b⟩

set_option maxRecDepth 100000 in
set_option maxHeartbeats 6400000 in
theorem again_any (A : Option Addr) (n c : Nat) (l : List UInt8) (w : World) (hr : Rb w A n l) (hn : l.length ≤ 200000) :
    Calls Try.prog 19 #[.slice A n c] w fun e w' => e = .returned (.bool true) ∧ Below w.heap.size w w' := by
  have HR := Lib.hid hr
  clear hr
  have hB := Below.refl w.heap.size w
  go_enter Try.func19, Try.ntmps19
  go_wp2_with fail
  refine (readEnded_any A n c l _ (HR.out.mv (by have hs_ := hB.size; repeat (first | with_reducible exact hB | with_reducible (refine Below.setCell ?_ (by simp <;> omega) _) | with_reducible (refine Below.alloc ?_ (by first | exact hs_ | (simp <;> omega)) _) | with_reducible (refine Below.drew ?_)))) hn).mono ?_
  rintro e u0 ⟨hq, bB⟩
  replace hB := Below.via (w := w) (by have hs_ := hB.size; repeat (first | with_reducible exact hB | with_reducible (refine Below.setCell ?_ (by simp <;> omega) _) | with_reducible (refine Below.alloc ?_ (by first | exact hs_ | (simp <;> omega)) _) | with_reducible (refine Below.drew ?_))) bB
  clear bB
  rcases hq with ⟨h1, rfl⟩ | ⟨x, f, s, h1, rfl⟩
  · clear h1
    go_wp2_with fail
    refine (readHeads_any A n c l _ (HR.out.mv (by have hs_ := hB.size; repeat (first | with_reducible exact hB | with_reducible (refine Below.setCell ?_ (by simp <;> omega) _) | with_reducible (refine Below.alloc ?_ (by first | exact hs_ | (simp <;> omega)) _) | with_reducible (refine Below.drew ?_)))) hn).mono ?_
    rintro e u1 ⟨hq, bB⟩
    replace hB := Below.via (w := w) (by have hs_ := hB.size; repeat (first | with_reducible exact hB | with_reducible (refine Below.setCell ?_ (by simp <;> omega) _) | with_reducible (refine Below.alloc ?_ (by first | exact hs_ | (simp <;> omega)) _) | with_reducible (refine Below.drew ?_))) bB
    clear bB
    rcases hq with ⟨h1, rfl⟩ | ⟨L, A2, c2, h1, rfl, hL⟩
    · clear h1
      go_wp2_with fail
      refine (readChains_any A n c l _ (HR.out.mv (by have hs_ := hB.size; repeat (first | with_reducible exact hB | with_reducible (refine Below.setCell ?_ (by simp <;> omega) _) | with_reducible (refine Below.alloc ?_ (by first | exact hs_ | (simp <;> omega)) _) | with_reducible (refine Below.drew ?_)))) hn).mono ?_
      rintro e u2 ⟨hq, bB⟩
      replace hB := Below.via (w := w) (by have hs_ := hB.size; repeat (first | with_reducible exact hB | with_reducible (refine Below.setCell ?_ (by simp <;> omega) _) | with_reducible (refine Below.alloc ?_ (by first | exact hs_ | (simp <;> omega)) _) | with_reducible (refine Below.drew ?_))) bB
      clear bB
      rcases hq with ⟨h1, rfl⟩ | ⟨LL, A3, c3, h1, rfl, hLL⟩
      · clear h1
        go_wp2_with fail
        go_ret
        exact ⟨rfl, (by have hs_ := hB.size; repeat (first | with_reducible exact hB | with_reducible (refine Below.setCell ?_ (by simp <;> omega) _) | with_reducible (refine Below.alloc ?_ (by first | exact hs_ | (simp <;> omega)) _) | with_reducible (refine Below.drew ?_)))⟩
      · obtain ⟨e1, e2, e3, e4⟩ := rch_ok h1
        have ln := (csB_n e2).2.1
        have HW := Lib.hid (fun W (h : RdC W A3 LL.length LL) => writeChains_any A3 LL.length c3 LL W h (by omega))
        rw [show wcsL LL = l from by rw [wcsL, if_pos e2, ← e1], show wcsE LL = 0 from if_pos e2] at HW
        have HT := Lib.hid hLL
        clear h1 e1 e2 hLL
        go_wp2_with fail
        refine (HW.out _ HT.out).mono ?_
        rintro e v2 ⟨A2, d2, rfl, t2, bB⟩
        replace hB := Below.via (w := w) (by have hs_ := hB.size; repeat (first | with_reducible exact hB | with_reducible (refine Below.setCell ?_ (by simp <;> omega) _) | with_reducible (refine Below.alloc ?_ (by first | exact hs_ | (simp <;> omega)) _) | with_reducible (refine Below.drew ?_))) bB
        clear bB
        have K1 := cvS d2 (own_rd t2)
        have K2 := cvS c (HR.out.mv (by have hs_ := hB.size; repeat (first | with_reducible exact hB | with_reducible (refine Below.setCell ?_ (by simp <;> omega) _) | with_reducible (refine Below.alloc ?_ (by first | exact hs_ | (simp <;> omega)) _) | with_reducible (refine Below.drew ?_))))
        clear HW t2 HT
        go_wp2_with fail
        clear K1 K2
        go_ret
        exact ⟨rfl, (by have hs_ := hB.size; repeat (first | with_reducible exact hB | with_reducible (refine Below.setCell ?_ (by simp <;> omega) _) | with_reducible (refine Below.alloc ?_ (by first | exact hs_ | (simp <;> omega)) _) | with_reducible (refine Below.drew ?_)))⟩
    · obtain ⟨e1, e2, e3, e4, e5⟩ := rhd_ok h1
      have HW := Lib.hid (fun W (h : RdT W A2 L.length L) => writeHeads_any A2 L.length c2 L W h (by omega))
      rw [show whsL L = l from by rw [whsL, if_pos e2, ← e1], show whsE L = 0 from if_pos e2] at HW
      have HT := Lib.hid hL
      clear h1 e1 e2 hL
      go_wp2_with fail
      refine (HW.out _ HT.out).mono ?_
      rintro e v1 ⟨A1, d1, rfl, t1, bB⟩
      replace hB := Below.via (w := w) (by have hs_ := hB.size; repeat (first | with_reducible exact hB | with_reducible (refine Below.setCell ?_ (by simp <;> omega) _) | with_reducible (refine Below.alloc ?_ (by first | exact hs_ | (simp <;> omega)) _) | with_reducible (refine Below.drew ?_))) bB
      clear bB
      have K1 := cvS d1 (own_rd t1)
      have K2 := cvS c (HR.out.mv (by have hs_ := hB.size; repeat (first | with_reducible exact hB | with_reducible (refine Below.setCell ?_ (by simp <;> omega) _) | with_reducible (refine Below.alloc ?_ (by first | exact hs_ | (simp <;> omega)) _) | with_reducible (refine Below.drew ?_))))
      clear HW t1 HT
      go_wp2_with fail
      clear K1 K2
      refine (readChains_any A n c l _ (HR.out.mv (by have hs_ := hB.size; repeat (first | with_reducible exact hB | with_reducible (refine Below.setCell ?_ (by simp <;> omega) _) | with_reducible (refine Below.alloc ?_ (by first | exact hs_ | (simp <;> omega)) _) | with_reducible (refine Below.drew ?_)))) hn).mono ?_
      rintro e u2 ⟨hq, bB⟩
      replace hB := Below.via (w := w) (by have hs_ := hB.size; repeat (first | with_reducible exact hB | with_reducible (refine Below.setCell ?_ (by simp <;> omega) _) | with_reducible (refine Below.alloc ?_ (by first | exact hs_ | (simp <;> omega)) _) | with_reducible (refine Below.drew ?_))) bB
      clear bB
      rcases hq with ⟨h1, rfl⟩ | ⟨LL, A3, c3, h1, rfl, hLL⟩
      · clear h1
        go_wp2_with fail
        go_ret
        exact ⟨rfl, (by have hs_ := hB.size; repeat (first | with_reducible exact hB | with_reducible (refine Below.setCell ?_ (by simp <;> omega) _) | with_reducible (refine Below.alloc ?_ (by first | exact hs_ | (simp <;> omega)) _) | with_reducible (refine Below.drew ?_)))⟩
      · obtain ⟨e1, e2, e3, e4⟩ := rch_ok h1
        have ln := (csB_n e2).2.1
        have HW := Lib.hid (fun W (h : RdC W A3 LL.length LL) => writeChains_any A3 LL.length c3 LL W h (by omega))
        rw [show wcsL LL = l from by rw [wcsL, if_pos e2, ← e1], show wcsE LL = 0 from if_pos e2] at HW
        have HT := Lib.hid hLL
        clear h1 e1 e2 hLL
        go_wp2_with fail
        refine (HW.out _ HT.out).mono ?_
        rintro e v2 ⟨A2, d2, rfl, t2, bB⟩
        replace hB := Below.via (w := w) (by have hs_ := hB.size; repeat (first | with_reducible exact hB | with_reducible (refine Below.setCell ?_ (by simp <;> omega) _) | with_reducible (refine Below.alloc ?_ (by first | exact hs_ | (simp <;> omega)) _) | with_reducible (refine Below.drew ?_))) bB
        clear bB
        have K1 := cvS d2 (own_rd t2)
        have K2 := cvS c (HR.out.mv (by have hs_ := hB.size; repeat (first | with_reducible exact hB | with_reducible (refine Below.setCell ?_ (by simp <;> omega) _) | with_reducible (refine Below.alloc ?_ (by first | exact hs_ | (simp <;> omega)) _) | with_reducible (refine Below.drew ?_))))
        clear HW t2 HT
        go_wp2_with fail
        clear K1 K2
        go_ret
        exact ⟨rfl, (by have hs_ := hB.size; repeat (first | with_reducible exact hB | with_reducible (refine Below.setCell ?_ (by simp <;> omega) _) | with_reducible (refine Below.alloc ?_ (by first | exact hs_ | (simp <;> omega)) _) | with_reducible (refine Below.drew ?_)))⟩
  · obtain ⟨e1, e2, e3, e4⟩ := red_ok h1
    obtain ⟨_, _, _, _, f1, f2⟩ := enB_ok e2
    have HW := Lib.hid (fun W => writeEnded_any x f s W e3 (by omega))
    rw [show weL x f s = l from by rw [weL, if_pos e2, ← e1], show weE x f s = 0 from if_pos e2] at HW
    clear h1 e1 e2
    go_wp2_with fail
    refine (HW.out _).mono ?_
    rintro e v0 ⟨A0, d0, rfl, t0, bB⟩
    replace hB := Below.via (w := w) (by have hs_ := hB.size; repeat (first | with_reducible exact hB | with_reducible (refine Below.setCell ?_ (by simp <;> omega) _) | with_reducible (refine Below.alloc ?_ (by first | exact hs_ | (simp <;> omega)) _) | with_reducible (refine Below.drew ?_))) bB
    clear bB
    have K1 := cvS d0 (own_rd t0)
    have K2 := cvS c (HR.out.mv (by have hs_ := hB.size; repeat (first | with_reducible exact hB | with_reducible (refine Below.setCell ?_ (by simp <;> omega) _) | with_reducible (refine Below.alloc ?_ (by first | exact hs_ | (simp <;> omega)) _) | with_reducible (refine Below.drew ?_))))
    clear HW t0
    go_wp2_with fail
    clear K1 K2
    refine (readHeads_any A n c l _ (HR.out.mv (by have hs_ := hB.size; repeat (first | with_reducible exact hB | with_reducible (refine Below.setCell ?_ (by simp <;> omega) _) | with_reducible (refine Below.alloc ?_ (by first | exact hs_ | (simp <;> omega)) _) | with_reducible (refine Below.drew ?_)))) hn).mono ?_
    rintro e u1 ⟨hq, bB⟩
    replace hB := Below.via (w := w) (by have hs_ := hB.size; repeat (first | with_reducible exact hB | with_reducible (refine Below.setCell ?_ (by simp <;> omega) _) | with_reducible (refine Below.alloc ?_ (by first | exact hs_ | (simp <;> omega)) _) | with_reducible (refine Below.drew ?_))) bB
    clear bB
    rcases hq with ⟨h1, rfl⟩ | ⟨L, A2, c2, h1, rfl, hL⟩
    · clear h1
      go_wp2_with fail
      refine (readChains_any A n c l _ (HR.out.mv (by have hs_ := hB.size; repeat (first | with_reducible exact hB | with_reducible (refine Below.setCell ?_ (by simp <;> omega) _) | with_reducible (refine Below.alloc ?_ (by first | exact hs_ | (simp <;> omega)) _) | with_reducible (refine Below.drew ?_)))) hn).mono ?_
      rintro e u2 ⟨hq, bB⟩
      replace hB := Below.via (w := w) (by have hs_ := hB.size; repeat (first | with_reducible exact hB | with_reducible (refine Below.setCell ?_ (by simp <;> omega) _) | with_reducible (refine Below.alloc ?_ (by first | exact hs_ | (simp <;> omega)) _) | with_reducible (refine Below.drew ?_))) bB
      clear bB
      rcases hq with ⟨h1, rfl⟩ | ⟨LL, A3, c3, h1, rfl, hLL⟩
      · clear h1
        go_wp2_with fail
        go_ret
        exact ⟨rfl, (by have hs_ := hB.size; repeat (first | with_reducible exact hB | with_reducible (refine Below.setCell ?_ (by simp <;> omega) _) | with_reducible (refine Below.alloc ?_ (by first | exact hs_ | (simp <;> omega)) _) | with_reducible (refine Below.drew ?_)))⟩
      · obtain ⟨e1, e2, e3, e4⟩ := rch_ok h1
        have ln := (csB_n e2).2.1
        have HW := Lib.hid (fun W (h : RdC W A3 LL.length LL) => writeChains_any A3 LL.length c3 LL W h (by omega))
        rw [show wcsL LL = l from by rw [wcsL, if_pos e2, ← e1], show wcsE LL = 0 from if_pos e2] at HW
        have HT := Lib.hid hLL
        clear h1 e1 e2 hLL
        go_wp2_with fail
        refine (HW.out _ HT.out).mono ?_
        rintro e v2 ⟨A2, d2, rfl, t2, bB⟩
        replace hB := Below.via (w := w) (by have hs_ := hB.size; repeat (first | with_reducible exact hB | with_reducible (refine Below.setCell ?_ (by simp <;> omega) _) | with_reducible (refine Below.alloc ?_ (by first | exact hs_ | (simp <;> omega)) _) | with_reducible (refine Below.drew ?_))) bB
        clear bB
        have K1 := cvS d2 (own_rd t2)
        have K2 := cvS c (HR.out.mv (by have hs_ := hB.size; repeat (first | with_reducible exact hB | with_reducible (refine Below.setCell ?_ (by simp <;> omega) _) | with_reducible (refine Below.alloc ?_ (by first | exact hs_ | (simp <;> omega)) _) | with_reducible (refine Below.drew ?_))))
        clear HW t2 HT
        go_wp2_with fail
        clear K1 K2
        go_ret
        exact ⟨rfl, (by have hs_ := hB.size; repeat (first | with_reducible exact hB | with_reducible (refine Below.setCell ?_ (by simp <;> omega) _) | with_reducible (refine Below.alloc ?_ (by first | exact hs_ | (simp <;> omega)) _) | with_reducible (refine Below.drew ?_)))⟩
    · obtain ⟨e1, e2, e3, e4, e5⟩ := rhd_ok h1
      have HW := Lib.hid (fun W (h : RdT W A2 L.length L) => writeHeads_any A2 L.length c2 L W h (by omega))
      rw [show whsL L = l from by rw [whsL, if_pos e2, ← e1], show whsE L = 0 from if_pos e2] at HW
      have HT := Lib.hid hL
      clear h1 e1 e2 hL
      go_wp2_with fail
      refine (HW.out _ HT.out).mono ?_
      rintro e v1 ⟨A1, d1, rfl, t1, bB⟩
      replace hB := Below.via (w := w) (by have hs_ := hB.size; repeat (first | with_reducible exact hB | with_reducible (refine Below.setCell ?_ (by simp <;> omega) _) | with_reducible (refine Below.alloc ?_ (by first | exact hs_ | (simp <;> omega)) _) | with_reducible (refine Below.drew ?_))) bB
      clear bB
      have K1 := cvS d1 (own_rd t1)
      have K2 := cvS c (HR.out.mv (by have hs_ := hB.size; repeat (first | with_reducible exact hB | with_reducible (refine Below.setCell ?_ (by simp <;> omega) _) | with_reducible (refine Below.alloc ?_ (by first | exact hs_ | (simp <;> omega)) _) | with_reducible (refine Below.drew ?_))))
      clear HW t1 HT
      go_wp2_with fail
      clear K1 K2
      refine (readChains_any A n c l _ (HR.out.mv (by have hs_ := hB.size; repeat (first | with_reducible exact hB | with_reducible (refine Below.setCell ?_ (by simp <;> omega) _) | with_reducible (refine Below.alloc ?_ (by first | exact hs_ | (simp <;> omega)) _) | with_reducible (refine Below.drew ?_)))) hn).mono ?_
      rintro e u2 ⟨hq, bB⟩
      replace hB := Below.via (w := w) (by have hs_ := hB.size; repeat (first | with_reducible exact hB | with_reducible (refine Below.setCell ?_ (by simp <;> omega) _) | with_reducible (refine Below.alloc ?_ (by first | exact hs_ | (simp <;> omega)) _) | with_reducible (refine Below.drew ?_))) bB
      clear bB
      rcases hq with ⟨h1, rfl⟩ | ⟨LL, A3, c3, h1, rfl, hLL⟩
      · clear h1
        go_wp2_with fail
        go_ret
        exact ⟨rfl, (by have hs_ := hB.size; repeat (first | with_reducible exact hB | with_reducible (refine Below.setCell ?_ (by simp <;> omega) _) | with_reducible (refine Below.alloc ?_ (by first | exact hs_ | (simp <;> omega)) _) | with_reducible (refine Below.drew ?_)))⟩
      · obtain ⟨e1, e2, e3, e4⟩ := rch_ok h1
        have ln := (csB_n e2).2.1
        have HW := Lib.hid (fun W (h : RdC W A3 LL.length LL) => writeChains_any A3 LL.length c3 LL W h (by omega))
        rw [show wcsL LL = l from by rw [wcsL, if_pos e2, ← e1], show wcsE LL = 0 from if_pos e2] at HW
        have HT := Lib.hid hLL
        clear h1 e1 e2 hLL
        go_wp2_with fail
        refine (HW.out _ HT.out).mono ?_
        rintro e v2 ⟨A2, d2, rfl, t2, bB⟩
        replace hB := Below.via (w := w) (by have hs_ := hB.size; repeat (first | with_reducible exact hB | with_reducible (refine Below.setCell ?_ (by simp <;> omega) _) | with_reducible (refine Below.alloc ?_ (by first | exact hs_ | (simp <;> omega)) _) | with_reducible (refine Below.drew ?_))) bB
        clear bB
        have K1 := cvS d2 (own_rd t2)
        have K2 := cvS c (HR.out.mv (by have hs_ := hB.size; repeat (first | with_reducible exact hB | with_reducible (refine Below.setCell ?_ (by simp <;> omega) _) | with_reducible (refine Below.alloc ?_ (by first | exact hs_ | (simp <;> omega)) _) | with_reducible (refine Below.drew ?_))))
        clear HW t2 HT
        go_wp2_with fail
        clear K1 K2
        go_ret
        exact ⟨rfl, (by have hs_ := hB.size; repeat (first | with_reducible exact hB | with_reducible (refine Below.setCell ?_ (by simp <;> omega) _) | with_reducible (refine Below.alloc ?_ (by first | exact hs_ | (simp <;> omega)) _) | with_reducible (refine Below.drew ?_)))⟩

end Go.Proofs.Ytljpggebpfpelaa
