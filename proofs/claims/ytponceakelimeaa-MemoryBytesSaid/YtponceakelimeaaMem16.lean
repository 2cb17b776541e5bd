/- The contract of the reference's ReadStacks. -/
import Derived.Test.YtponceakelimeaaMem15
namespace Go.Proofs.Ytponceakelimeaa
open Go.RowKit Wire
set_option linter.unusedVariables false

/-- The reference's form: so many regions from an index and a place on. -/
def rsQ (l : List UInt8) : Nat → Nat → Nat → Bool × List (Nat × List UInt8) × Nat
  | 0, _, a => (true, [], a)
  | k + 1, g, a =>
    if rrB (l.drop a) = true then
      ((rsQ l k (g + 1) (a + rrK (l.drop a))).1, (16777216 * (g + 1), rrL (l.drop a)) :: (rsQ l k (g + 1) (a + rrK (l.drop a))).2.1, (rsQ l k (g + 1) (a + rrK (l.drop a))).2.2)
    else (false, [], 0)
theorem rq_no {l : List UInt8} {k g a : Nat} (h : rrB (l.drop a) = false) : rsQ l (k + 1) g a = (false, [], 0) := by rw [rsQ, if_neg (by simp [h])]
theorem rq_yes {l : List UInt8} {k g a : Nat} (h : rrB (l.drop a) = true) :
    rsQ l (k + 1) g a = ((rsQ l k (g + 1) (a + rrK (l.drop a))).1, (16777216 * (g + 1), rrL (l.drop a)) :: (rsQ l k (g + 1) (a + rrK (l.drop a))).2.1, (rsQ l k (g + 1) (a + rrK (l.drop a))).2.2) := by rw [rsQ, if_pos h]
theorem uvR_drop (l : List UInt8) (a : Nat) : uvR (l.drop a) 0 = uvR l (a : Int) := by simp [uvR]
theorem rq_eq {l : List UInt8} (hl : l.length ≤ 200000) : ∀ (k g a : Nat), a ≤ l.length →
    ((rsR l k g a).1 = true → rsQ l k g a = rsR l k g a) ∧ ((rsR l k g a).1 = false → (rsQ l k g a).1 = false ∨ ∃ p ∈ (rsQ l k g a).2.1, 4096 < p.2.length) := by
  intro k
  induction k with
  | zero => intro g a _; exact ⟨fun _ => rfl, fun h => by simp [rsR] at h⟩
  | succ k ih =>
    intro g a ha
    by_cases h : utE l (a : Int) 4096 = 0
    · obtain ⟨h1, h2, h3, _, _⟩ := ut_zero h
      have hb : rrB (l.drop a) = true := by
        simp only [rrB, uvR_drop, h1, Bool.and_eq_true, decide_eq_true_eq, List.length_drop, true_and]; omega
      obtain ⟨_, e2, e3⟩ := rr_yes (b := 0) hb
      rw [uvR_drop] at e2 e3
      rw [rs_yes h rfl rfl, rq_yes hb, e2, e3, ← Nat.add_assoc, List.drop_drop]
      obtain ⟨i1, i2⟩ := ih (g + 1) (a + (uvR l (a : Int)).2.2 + (uvR l (a : Int)).2.1) (by omega)
      refine ⟨fun hh => by rw [i1 hh], fun hh => ?_⟩
      rcases i2 hh with hh | ⟨p, hp, hq⟩
      · exact .inl hh
      · exact .inr ⟨p, List.mem_cons_of_mem _ hp, hq⟩
    · rw [rs_no h]
      refine ⟨(fun hh => by cases hh), fun _ => ?_⟩
      cases hb : rrB (l.drop a)
      · rw [rq_no hb]; exact .inl rfl
      · have hb2 := hb
        simp only [rrB, uvR_drop, Bool.and_eq_true, decide_eq_true_eq, List.length_drop] at hb2
        rcases ut_none (l := l) (a := (a : Int)) (mo := 4096) (by omega) hl (by omega) h with h1 | h1 | h1
        · exact absurd hb2.1 h1
        · rw [rq_yes hb]
          refine .inr ⟨_, List.mem_cons_self, ?_⟩
          rw [(rr_yes (b := 0) hb).2.1, uvR_drop, List.length_take, List.length_drop, List.length_drop]
          omega
        · omega
theorem rq_B {l : List UInt8} (hl : l.length ≤ 200000) (hx : uvE l 0 16 = 0) :
    rsB l = ((rsQ l (uvR l 0).2.1 0 (uvR l 0).2.2).1 && (decide ((rsQ l (uvR l 0).2.1 0 (uvR l 0).2.2).2.2 = l.length) && stB (rsQ l (uvR l 0).2.1 0 (uvR l 0).2.2).2.1)) ∧
    (rsB l = true → rsL l = (rsQ l (uvR l 0).2.1 0 (uvR l 0).2.2).2.1 ∧ rsE l = 0) := by
  have hz := uv_zero hx
  have hle := uvR_le hz.2.1
  have h3 := hle.2.2.1
  simp at h3
  obtain ⟨i1, i2⟩ := rq_eq hl (uvR l 0).2.1 0 (uvR l 0).2.2 h3
  cases h : (rsR l (uvR l 0).2.1 0 (uvR l 0).2.2).1
  · have hb : rsB l = false := by rw [rsB, h]; simp
    refine ⟨?_, fun hh => by rw [hb] at hh; cases hh⟩
    rw [hb]
    rcases i2 h with h1 | ⟨p, hp, hq⟩
    · rw [h1]; rfl
    · have : stB (rsQ l (uvR l 0).2.1 0 (uvR l 0).2.2).2.1 = false := by
        cases hs : stB (rsQ l (uvR l 0).2.1 0 (uvR l 0).2.2).2.1
        · rfl
        · have := (stB_bd hs).2 p hp
          omega
      rw [this]; simp
  · rw [i1 h]
    exact ⟨by rw [rsB, hx]; rfl, fun hh => rsb_yes hh⟩

theorem size8m : ∀ w, (sizeOf 5).run Try.prog w = .ok 1 w := fun _ => by kernel_rfl
theorem sl_tail (A : Option Addr) (n c i : Nat) (hc : i ≤ n) (W : World) : (Instr.slice 23 (.slice A n c) (some (.int .i64 (i : Int))) none none).run Try.prog W = .ok (.slice (sA A c i) (n - i) (c - i)) W := slice_l Try.underlying23 size8m A n c i rfl hc W
theorem sub_all {w : World} {B i c : Nat} {A : Option Addr} {l : List UInt8} (h : RdB w B A l.length l) (hi : i ≤ l.length) (hc : l.length ≤ c) : RdB w B (sA A c i) (l.length - i) (l.drop i) := by
  have := sub_reads h (i := i) (v := l.length - i) (by omega) hc
  rwa [List.take_of_length_le (by rw [List.length_drop]; omega)] at this

set_option maxRecDepth 100000 in
set_option maxHeartbeats 8000000 in
theorem rreadStacks_any (A : Option Addr) (n c : Nat) (l : List UInt8) (w : World) (hr : Rb w A n l) (hnc : l.length ≤ c) (hn : l.length ≤ 200000) :
    Calls Try.prog 25 #[.slice A n c] w fun e w' => RsP w l e w' := by
  have hl := hr.len8
  subst hl
  have HR := Lib.hid hr
  clear hr
  by_cases hx : uvE l 0 16 = 0
  rotate_left
  · have HV := Lib.hid (rsb_no (l := l) (by simp [rsB, hx]))
    by_cases ht : rdE l (0 : Nat) = 0
    rotate_left
    · obtain ⟨f, hf⟩ : ∃ f, rdE l (0 : Nat) = f := ⟨_, rfl⟩
      have d1 : (f != 0) = true := by rw [bne_iff_ne, ← hf]; exact ht
      have HT := Lib.hid (show rdC A l.length c l (0 : Nat) = cur none 0 0 0 ∧ rdN l (0 : Nat) = 0 ∧ rdE l (0 : Nat) = f from ⟨by rw [rdC, if_neg ht], by rw [rdN, if_neg ht], hf⟩)
      clear ht hf hx
      have hB := Below.refl w.heap.size w
      go_enter Try.func25, Try.ntmps25
      go_wp2_with fail
      refine (read_any A l.length c l 0 _ (HR.out.mv hB) (by omega) (by omega)).mono ?_
      rintro e w3 ⟨rfl, b⟩
      rw [HT.out.1, HT.out.2.1, HT.out.2.2]
      replace hB := Below.via (w := w) (by have hs_ := hB.size; repeat (first | with_reducible exact hB | with_reducible (refine Below.setCell ?_ (by simp <;> omega) _) | with_reducible (refine Below.alloc ?_ (by first | exact hs_ | (simp <;> omega)) _) | with_reducible (refine Below.drew ?_))) b
      clear b
      go_wp2_with fail
      go_ret2
      unfold RsP
      exact ⟨none, 0, by rw [HV.out.1, HV.out.2]; rfl, by rw [HV.out.1]; exact (OwV.nil _ _ _ (Nat.zero_le _)).top, (by have hs_ := hB.size; repeat (first | with_reducible exact hB | with_reducible (refine Below.setCell ?_ (by simp <;> omega) _) | with_reducible (refine Below.alloc ?_ (by first | exact hs_ | (simp <;> omega)) _) | with_reducible (refine Below.drew ?_)))⟩
    obtain ⟨u, hu⟩ : ∃ u, (uvR l 0).2.2 = u := ⟨_, rfl⟩
    obtain ⟨y, hy⟩ : ∃ y, (uvR l 0).2.1 = y := ⟨_, rfl⟩
    have ht0 : (uvR l 0).1 = 0 := ht
    have h16 : 16 < y := by
      rcases Nat.lt_or_ge 16 y with h | h
      · exact h
      · exfalso
        apply hx
        unfold uvE
        rw [if_pos (by simp only [ckB, Bool.and_eq_true, decide_eq_true_eq]; omega), if_neg (by simp [ht0]), hy, if_neg (by omega)]
    have HT := Lib.hid (show rdC A l.length c l (0 : Nat) = cur A l.length c (u : Int) ∧ rdN l (0 : Nat) = y ∧ rdE l (0 : Nat) = 0 from ⟨by rw [rdC, if_pos ht]; show cur _ _ _ ((0 : Int) + ((uvR l 0).2.2 : Int)) = _; rw [hu]; simp, by rw [rdN, if_pos ht]; exact hy, ht⟩)
    have d2 : decide ((y : Int) > 16) = true := by rw [decide_eq_true_eq]; omega
    clear ht ht0 hu hy hx
    have hB := Below.refl w.heap.size w
    go_enter Try.func25, Try.ntmps25
    go_wp2_with fail
    refine (read_any A l.length c l 0 _ (HR.out.mv hB) (by omega) (by omega)).mono ?_
    rintro e w3 ⟨rfl, b⟩
    rw [HT.out.1, HT.out.2.1, HT.out.2.2]
    replace hB := Below.via (w := w) (by have hs_ := hB.size; repeat (first | with_reducible exact hB | with_reducible (refine Below.setCell ?_ (by simp <;> omega) _) | with_reducible (refine Below.alloc ?_ (by first | exact hs_ | (simp <;> omega)) _) | with_reducible (refine Below.drew ?_))) b
    clear b
    go_wp2_with fail
    go_ret2
    unfold RsP
    exact ⟨none, 0, by rw [HV.out.1, HV.out.2]; rfl, by rw [HV.out.1]; exact (OwV.nil _ _ _ (Nat.zero_le _)).top, (by have hs_ := hB.size; repeat (first | with_reducible exact hB | with_reducible (refine Below.setCell ?_ (by simp <;> omega) _) | with_reducible (refine Below.alloc ?_ (by first | exact hs_ | (simp <;> omega)) _) | with_reducible (refine Below.drew ?_)))⟩
  have hz0 := uv_zero hx
  have hle := uvR_le hz0.2.1
  have HQB := rq_B hn hx
  have ht : rdE l (0 : Nat) = 0 := hz0.2.1
  obtain ⟨N, hN⟩ : ∃ N, (uvR l 0).2.1 = N := ⟨_, rfl⟩
  obtain ⟨b, hb⟩ : ∃ b, (uvR l 0).2.2 = b := ⟨_, rfl⟩
  have hbl : b ≤ l.length := by have := hle.2.2.1; rw [hb] at this; simp at this; omega
  have hN16 : N ≤ 16 := by rw [← hN]; exact hz0.2.2
  have HT := Lib.hid (show rdC A l.length c l (0 : Nat) = cur A l.length c (b : Int) ∧ rdN l (0 : Nat) = N ∧ rdE l (0 : Nat) = 0 from ⟨by rw [rdC, if_pos ht]; show cur _ _ _ ((0 : Int) + ((uvR l 0).2.2 : Int)) = _; rw [hb]; simp, by rw [rdN, if_pos ht]; exact hN, ht⟩)
  rw [hN, hb] at HQB
  have HB := Lib.hid HQB.1
  have HY := Lib.hid HQB.2
  have d2 : ¬ 16 < N := by omega
  clear hz0 hle HQB ht hN hb hx
  have hB := Below.refl w.heap.size w
  go_enter Try.func25, Try.ntmps25
  go_wp2_with fail
  refine (read_any A l.length c l 0 _ (HR.out.mv hB) (by omega) (by omega)).mono ?_
  rintro e w3 ⟨rfl, b⟩
  rw [HT.out.1, HT.out.2.1, HT.out.2.2]
  replace hB := Below.via (w := w) (by have hs_ := hB.size; repeat (first | with_reducible exact hB | with_reducible (refine Below.setCell ?_ (by simp <;> omega) _) | with_reducible (refine Below.alloc ?_ (by first | exact hs_ | (simp <;> omega)) _) | with_reducible (refine Below.drew ?_))) b
  clear b
  go_wp2_with fail
  go_loopw [7, 8, 9] (fun v s i wr => ∃ (j q : Nat) (done : List (Nat × List UInt8)) (A2 : Option Addr) (c2 : Nat), j ≤ N ∧ i = .int .u64 (j : Int) ∧ s = .int .i64 (q : Int) ∧ v = .slice A2 j c2 ∧ done.length = j ∧ q ≤ l.length ∧ (rsQ l N 0 b).1 = (rsQ l (N - j) j q).1 ∧ ((rsQ l N 0 b).1 = true → (rsQ l N 0 b).2.1 = done ++ (rsQ l (N - j) j q).2.1 ∧ (rsQ l N 0 b).2.2 = (rsQ l (N - j) j q).2.2) ∧
      OwV wr w.heap.size wr.heap.size A2 j c2 done ∧ Below w.heap.size w wr) (fun _ _ i _ => N - (intOf i).toNat)
  case atStart => exact ⟨0, b, [], none, 0, by omega, rfl, rfl, rfl, rfl, hbl, by simp, fun _ => by simp, OwV.nil _ _ _ (Nat.le_refl _), (by have hs_ := hB.size; repeat (first | with_reducible exact hB | with_reducible (refine Below.setCell ?_ (by simp <;> omega) _) | with_reducible (refine Below.alloc ?_ (by first | exact hs_ | (simp <;> omega)) _) | with_reducible (refine Below.drew ?_)))⟩
  case round =>
    obtain ⟨j, q, done, A2, c2, hj, rfl, rfl, rfl, hdl, hql, hr1, hr2, hv, hB⟩ := hrel
    have HDL := Lib.hid hdl
    have HR1 := Lib.hid hr1
    have HR2 := Lib.hid hr2
    clear hdl hr1 hr2
    by_cases hlt : j < N
    rotate_left
    · obtain rfl : j = N := by omega
      have HDD := Lib.hid (show (rsQ l j 0 b).1 = true ∧ (rsQ l j 0 b).2.1 = done ∧ (rsQ l j 0 b).2.2 = q from by
        have h1 := HR1.out
        rw [Nat.sub_self] at h1
        have h2 := HR2.out h1
        rw [Nat.sub_self] at h2
        exact ⟨h1, by rw [h2.1]; simp [rsQ], by rw [h2.2]; rfl⟩)
      by_cases hqn : q = l.length
      rotate_left
      · have d3 : ((q : Int) != (l.length : Int)) = true := by rw [bne_iff_ne]; omega
        have HV := Lib.hid (rsb_no (l := l) (by rw [HB.out, HDD.out.2.2, decide_eq_false hqn]; simp))
        go_wp2_with fail
        go_ret2
        unfold RsP
        exact ⟨none, 0, by rw [HV.out.1, HV.out.2]; rfl, by rw [HV.out.1]; exact (OwV.nil _ _ _ (Nat.zero_le _)).top, (by have hs_ := hB.size; repeat (first | with_reducible exact hB | with_reducible (refine Below.setCell ?_ (by simp <;> omega) _) | with_reducible (refine Below.alloc ?_ (by first | exact hs_ | (simp <;> omega)) _) | with_reducible (refine Below.drew ?_)))⟩
      have d3 : ((q : Int) != (l.length : Int)) = false := by rw [bne_eq_false_iff_eq]; omega
      have HD := Lib.hid (show decide (q = l.length) = true from decide_eq_true hqn)
      clear hqn
      cases hs : stB done
      · have HS := Lib.hid hs
        have HV := Lib.hid (rsb_no (l := l) (by rw [HB.out, HDD.out.2.1, hs]; simp))
        clear hs
        go_wp2_with fail
        refine (stacks26_any A2 j c2 done _ hv.rd).mono ?_
        rintro e wq ⟨rfl, rfl⟩
        rw [HS.out]
        go_wp2_with fail
        go_ret2
        unfold RsP
        exact ⟨none, 0, by rw [HV.out.1, HV.out.2]; rfl, by rw [HV.out.1]; exact (OwV.nil _ _ _ (Nat.zero_le _)).top, (by have hs_ := hB.size; repeat (first | with_reducible exact hB | with_reducible (refine Below.setCell ?_ (by simp <;> omega) _) | with_reducible (refine Below.alloc ?_ (by first | exact hs_ | (simp <;> omega)) _) | with_reducible (refine Below.drew ?_)))⟩
      have HS := Lib.hid hs
      have HV := Lib.hid (show rsL l = done ∧ rsE l = 0 from by
        have := HY.out (by rw [HB.out, HDD.out.1, HDD.out.2.1, HDD.out.2.2, HD.out, hs]; rfl)
        rw [HDD.out.2.1] at this
        exact this)
      clear hs
      go_wp2_with fail
      refine (stacks26_any A2 j c2 done _ hv.rd).mono ?_
      rintro e wq ⟨rfl, rfl⟩
      rw [HS.out]
      go_wp2_with fail
      go_ret2
      unfold RsP
      exact ⟨A2, c2, by rw [HV.out.1, HV.out.2, HDL.out]; rfl, by rw [HV.out.1, HDL.out]; exact hv, (by have hs_ := hB.size; repeat (first | with_reducible exact hB | with_reducible (refine Below.setCell ?_ (by simp <;> omega) _) | with_reducible (refine Below.alloc ?_ (by first | exact hs_ | (simp <;> omega)) _) | with_reducible (refine Below.drew ?_)))⟩
    have hM : N - j = (N - (j + 1)) + 1 := by omega
    obtain ⟨bs, hbs⟩ : ∃ bs, 16777216 * (j + 1) = bs := ⟨_, rfl⟩
    have hbsI : 16777216 * ((j : Int) + 1) = (bs : Int) := by omega
    have hb64 : bs < 18446744073709551616 := by omega
    have HBS := Lib.hid hbs
    have SL := sl_tail A l.length c q hql
    obtain ⟨bz, hbz⟩ : ∃ bz, rrN bs (l.drop q) = bz := ⟨_, rfl⟩
    obtain ⟨T, hT⟩ : ∃ T, rrL (l.drop q) = T := ⟨_, rfl⟩
    obtain ⟨kk, hkk⟩ : ∃ kk, rrK (l.drop q) = kk := ⟨_, rfl⟩
    have HT := Lib.hid (And.intro hbz (And.intro hT hkk))
    have HM := Lib.hid hM
    clear hbs hM
    cases hb : rrB (l.drop q)
    · have h := rr_no (b := bs) hb
      have hk0 : kk = 0 := by rw [← hkk]; exact h.2.2
      have HV := Lib.hid (rsb_no (l := l) (by rw [HB.out, HR1.out, HM.out, rq_no hb]; rfl))
      clear hbz hT hkk hb h
      go_wp2_with fail
      refine (rread26_any (sA A c q) (l.length - q) (c - q) (l.drop q) bs _ (sub_all (HR.out.mv hB) hql hnc) (by rw [List.length_drop]; omega) (by rw [List.length_drop]; omega)).mono ?_
      rintro e w6 ⟨A5, c5, rfl, o5, b⟩
      rw [HT.out.1, HT.out.2.1, HT.out.2.2]
      rw [HT.out.2.1] at o5
      replace o5 := own_low o5 (show w.heap.size ≤ _ from by have hs_ := hB.size; simp <;> omega)
      replace hv := OwV.call (by repeat (first | with_reducible exact hv | (with_reducible apply OwV.setOut; case hp => (simp <;> omega)) | with_reducible (apply OwV.al) | with_reducible (apply OwV.drew))) b
      replace hB := Below.via (w := w) (by have hs_ := hB.size; repeat (first | with_reducible exact hB | with_reducible (refine Below.setCell ?_ (by simp <;> omega) _) | with_reducible (refine Below.alloc ?_ (by first | exact hs_ | (simp <;> omega)) _) | with_reducible (refine Below.drew ?_))) b
      clear b
      go_wp2_with fail
      go_ret2
      unfold RsP
      exact ⟨none, 0, by rw [HV.out.1, HV.out.2]; rfl, by rw [HV.out.1]; exact (OwV.nil _ _ _ (Nat.zero_le _)).top, (by have hs_ := hB.size; repeat (first | with_reducible exact hB | with_reducible (refine Below.setCell ?_ (by simp <;> omega) _) | with_reducible (refine Below.alloc ?_ (by first | exact hs_ | (simp <;> omega)) _) | with_reducible (refine Below.drew ?_)))⟩
    have h := rr_yes (b := bs) hb
    have hb2 := hb
    simp only [rrB, uvR_drop, Bool.and_eq_true, decide_eq_true_eq, List.length_drop] at hb2
    have hle := uvR_le hb2.1
    have hk1 : 0 < kk := by rw [← hkk, h.2.2, uvR_drop]; omega
    have hk2 : q + kk ≤ l.length := by rw [← hkk, h.2.2, uvR_drop]; omega
    have hbz2 : bz = bs := by rw [← hbz]; exact h.1
    subst hbz2
    obtain ⟨q2, hq2⟩ : ∃ q2, q + kk = q2 := ⟨_, rfl⟩
    have hq2l : q2 ≤ l.length := by omega
    have HQ2 := Lib.hid (show (q : Int) + (kk : Int) = (q2 : Int) from by omega)
    have hW := rq_yes (k := N - (j + 1)) (g := j) hb
    rw [hT, hkk, HBS.out, hq2, ← HM.out] at hW
    have HN1 := Lib.hid (show (rsQ l N 0 b).1 = (rsQ l (N - (j + 1)) (j + 1) q2).1 from by rw [HR1.out, hW])
    have HN2 := Lib.hid (show (rsQ l N 0 b).1 = true → (rsQ l N 0 b).2.1 = (done ++ [(bz, T)]) ++ (rsQ l (N - (j + 1)) (j + 1) q2).2.1 ∧ (rsQ l N 0 b).2.2 = (rsQ l (N - (j + 1)) (j + 1) q2).2.2 from fun h => by
      obtain ⟨e1, e2⟩ := HR2.out h
      rw [e1, e2, hW]
      simp)
    have d5 : ((kk : Int) == 0) = false := by rw [beq_eq_false_iff_ne]; omega
    clear hbz hT hkk hb h hb2 hle hq2 hW
    go_wp2_with fail
    refine (rread26_any (sA A c q) (l.length - q) (c - q) (l.drop q) bz _ (sub_all (HR.out.mv hB) hql hnc) (by rw [List.length_drop]; omega) (by rw [List.length_drop]; omega)).mono ?_
    rintro e w6 ⟨A5, c5, rfl, o5, b⟩
    rw [HT.out.1, HT.out.2.1, HT.out.2.2]
    rw [HT.out.2.1] at o5
    replace o5 := own_low o5 (show w.heap.size ≤ _ from by have hs_ := hB.size; simp <;> omega)
    replace hv := OwV.call (by repeat (first | with_reducible exact hv | (with_reducible apply OwV.setOut; case hp => (simp <;> omega)) | with_reducible (apply OwV.al) | with_reducible (apply OwV.drew))) b
    replace hB := Below.via (w := w) (by have hs_ := hB.size; repeat (first | with_reducible exact hB | with_reducible (refine Below.setCell ?_ (by simp <;> omega) _) | with_reducible (refine Below.alloc ?_ (by first | exact hs_ | (simp <;> omega)) _) | with_reducible (refine Below.drew ?_))) b
    clear b
    have hcap := own_cap o5
    unfold maxLen at hcap
    have hv1 := hv.al (.cells #[.int .u64 (bz : Int), .slice A5 T.length c5] 25)
    have hv2 := hv1.al (.cells #[.int .u64 (bz : Int), .slice A5 T.length c5] 25)
    have ho2 := (OwU.of_own o5).al (.cells #[.int .u64 (bz : Int), .slice A5 T.length c5] 25) |>.al (.cells #[.int .u64 (bz : Int), .slice A5 T.length c5] 25)
    have hB2 : Below w.heap.size w ((w6.alloc (.cells #[.int .u64 (bz : Int), .slice A5 T.length c5] 25)).alloc (.cells #[.int .u64 (bz : Int), .slice A5 T.length c5] 25)) := Below.alloc (Below.alloc hB hB.size (.cells #[.int .u64 (bz : Int), .slice A5 T.length c5] 25)) (by have := hB.size; simp; omega) (.cells #[.int .u64 (bz : Int), .slice A5 T.length c5] 25)
    obtain ⟨v1, vh, vl, vs, v2, v3, v4, v5⟩ := hv2
    go_wp2_with (at_builtin; refine wpList_app rfl (.tmp 44) (.tmp 46) _ rfl slRG w.heap.size _ j vs.flatten rfl v4 _ (some ⟨w6.heap.size + 1, 0, none⟩) 1 1 [.int .u64 (bz : Int), .slice A5 T.length c5] rfl (reads2_at (by simp) _ _ _) (by simp [Value.oneCell']) (by omega) hB2.size ?_; intro A8 c8 w8 o8 hg8 b8 hc8; have hv8 := OwV.snoc (p := (bz, T)) v1 v2 v3 v4 v5 ho2 hcap hb64 o8 hg8)
    go_roundw
    case rel => exact ⟨j + 1, q2, done ++ [(bz, T)], A8, c8, by omega, by go_num, by rw [HQ2.out], rfl, by rw [List.length_append, HDL.out]; rfl, hq2l, HN1.out, HN2.out, hv8, hB2.trans b8⟩
    case measure => simp [intOf]; omega

end Go.Proofs.Ytponceakelimeaa
