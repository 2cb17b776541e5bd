/- The walk of HeadsLess. -/
import Derived.Test.YtljpggebpfpelaaHd15
import Derived.BigQuiet
namespace Go.Proofs.Ytljpggebpfpelaa
open Go.RowKit Wire
set_option linter.unusedVariables false

theorem below_drewN' {B : Nat} {u w : World} (h : Below B u w) (n : Nat) : Below B u (w.drewN n) := ⟨h.os, h.tape, h.output, h.size, h.block⟩
theorem flatT_take (L : List Rtn) : ∀ m, (L.map rtC).flatten.take (m * 6) = ((L.take m).map rtC).flatten := by
  induction L with
  | nil => intro m; simp
  | cons x L ih =>
    intro m
    cases m with
    | zero => simp
    | succ m =>
      rw [List.map_cons, List.flatten_cons, List.take_succ_cons, List.map_cons, List.flatten_cons, ← ih m, List.take_append]
      rw [show (rtC x).length = 6 from rfl, List.take_of_length_le (by show 6 ≤ _; omega)]
      congr 2
      omega
theorem RdT.first {w : World} {A : Option Addr} {n m : Nat} {L : List Rtn} (h : RdT w A n L) (hm : m ≤ n) : RdT w A m (L.take m) :=
  ⟨by rw [List.length_take, h.1]; omega, by have := Reads.first h.2.1 hm; rwa [flatT_take] at this, fun x hx => h.2.2 x (List.mem_of_mem_take hx)⟩
theorem hdsB_take {L : List Rtn} : ∀ {i m : Nat}, hdsB i L = true → hdsB i (L.take m) = true := by
  induction L with
  | nil => intro i m h; simpa using h
  | cons x L ih =>
    intro i m h
    cases m with
    | zero => rfl
    | succ m =>
      simp only [hdsB, Bool.and_eq_true] at h
      simp only [List.take_succ_cons, hdsB, Bool.and_eq_true]
      exact ⟨h.1, ih h.2⟩
/-- What HeadsLess says of the bytes. -/
theorem less_law {L : List Rtn} (h : hsB L = true) (h2 : 2 ≤ L.length) : ∃ (p q : List UInt8) (st : Nat) (x : Rtn), whsL L = UInt8.ofNat L.length :: p ∧ whsE L = 0 ∧ whsL (L.take (L.length - 1)) = UInt8.ofNat (L.length - 1) :: q ∧ whsE (L.take (L.length - 1)) = 0 ∧
    p.take q.length = q ∧ q.length + 6 ≤ p.length ∧ L[L.length - 1]? = some x ∧ x.1 = st ∧ (st = 3 → p.length = q.length + 6) ∧ p.length ≤ 900 := by
  obtain ⟨k1, k2, k3⟩ := hsB_n h
  have hl : L.length - 1 < L.length := by omega
  have hx : L[L.length - 1]? = some L[L.length - 1] := List.getElem?_eq_getElem hl
  obtain ⟨x, hxe⟩ : ∃ x, L[L.length - 1] = x := ⟨_, rfl⟩
  rw [hxe] at hx
  have ht := hBy_take hx
  rw [show L.length - 1 + 1 = L.length from by omega, List.take_length] at ht
  have hh : hsB (L.take (L.length - 1)) = true := by
    have h4 : (L.take (L.length - 1)).length = L.length - 1 := by rw [List.length_take]; omega
    simp only [hsB, hdsB_take k3, h4, Bool.true_and, Bool.and_eq_true, decide_eq_true_eq]
    omega
  have h4 : (L.take (L.length - 1)).length = L.length - 1 := by rw [List.length_take]; omega
  have v1 : vry L.length = [UInt8.ofNat L.length] := vryF_small (by omega)
  have v2 : vry (L.length - 1) = [UInt8.ofNat (L.length - 1)] := vryF_small (by omega)
  have h6 := hdL_len (L.length - 1) x
  have hb := hBy_len L 0
  refine ⟨hBy 0 L, hBy 0 (L.take (L.length - 1)), x.1, x, by simp [whsL, h, hsL, v1], by simp [whsE, h], ?_, by simp [whsE, hh], ?_, ?_, hx, rfl, ?_, by omega⟩
  · rw [whsL, if_pos hh, hsL, h4, v2]; rfl
  · rw [ht, List.take_left]
  · rw [ht, List.length_append]; omega
  · intro h3
    have hd := hdsB_at k3 hx
    rw [Nat.zero_add] at hd
    obtain ⟨st, co, sp, df, pn, ky⟩ := x
    simp only at h3
    subst h3
    unfold hdB at hd
    simp only [Bool.and_eq_true, decide_eq_true_eq, if_pos] at hd
    obtain ⟨_, _, _, s1, s2, s3, s4, s5⟩ := hd
    rw [ht, List.length_append]
    subst s1 s2 s3 s4 s5
    have w0 : vry 0 = [UInt8.ofNat 0] := vryF_small (by omega)
    have d0 : dbl 0 = 0 := rfl
    simp only [hdL, Nat.sub_self, Nat.zero_div, d0, w0, List.length_cons, List.length_append, List.length_nil]

theorem size8h : ∀ w, (sizeOf 5).run Try.prog w = .ok 1 w := fun w => by kernel_rfl

set_option maxRecDepth 100000 in
set_option maxHeartbeats 4000000 in
theorem headsLess_walk (w : World) (A : Option Addr) (n c : Nat) (L : List Rtn) (hr : RdT w A n L) (hc : n ≤ c ∧ c ≤ 9223372036854775807) :
    Calls Try.prog 6 #[.slice A n c] w fun e w' => e = .returned (.bool true) ∧ Below w.heap.size w w' := by
  have HR := Lib.hid hr
  have HN := Lib.hid hr.1
  clear hr
  have hB := Below.refl w.heap.size w
  go_enter Try.func6, Try.ntmps6
  go_wp2_with fail
  with_reducible refine (alive27_any w).mono ?_
  rintro e w1 ⟨rfl, bB⟩
  replace hB := Below.via (w := w) (by have hs_ := hB.size; repeat (first | with_reducible exact hB | with_reducible (refine Below.setCell ?_ (by simp <;> omega) _) | with_reducible (refine Below.alloc ?_ (by first | exact hs_ | (simp <;> omega)) _) | with_reducible (refine Below.drew ?_))) bB
  clear bB
  by_cases g1 : n < 2
  · go_wp2_with fail
    go_ret
    exact ⟨rfl, hB⟩
  go_wp2_with fail
  with_reducible refine (heads27_any A n c L _ (HR.out.mv (by have hs_ := hB.size; repeat (first | with_reducible exact hB | with_reducible (refine Below.setCell ?_ (by simp <;> omega) _) | with_reducible (refine Below.alloc ?_ (by first | exact hs_ | (simp <;> omega)) _) | with_reducible (refine Below.drew ?_))))).mono ?_
  rintro e w2 ⟨rfl, bB⟩
  replace hB := Below.via (w := w) (by have hs_ := hB.size; repeat (first | with_reducible exact hB | with_reducible (refine Below.setCell ?_ (by simp <;> omega) _) | with_reducible (refine Below.alloc ?_ (by first | exact hs_ | (simp <;> omega)) _) | with_reducible (refine Below.drew ?_))) bB
  clear bB
  cases hh : hsB L
  · go_wp2_with fail
    go_ret
    exact ⟨rfl, hB⟩
  obtain ⟨p, q, st, x, e1, e2, e3, e4, e5, e6, e7, e8, e9, e10⟩ := less_law hh (by rw [HN.out]; omega)
  rw [HN.out] at e1 e3 e4 e7
  have hn16 : n ≤ 16 := by have := (hsB_n hh).2.1; rw [HN.out] at this; exact this
  have H1 := Lib.hid (fun W (h : RdT W A n L) => writeHeads_any A n c L W h (by omega))
  have H2 := Lib.hid (fun W (h : RdT W A n L) => writeHeads_any A (n - 1) c (L.take (n - 1)) W (h.first (by omega)) (by omega))
  rw [e1, e2] at H1
  rw [e3, e4] at H2
  obtain ⟨P, hP⟩ : ∃ P, UInt8.ofNat n :: p = P := ⟨_, rfl⟩
  obtain ⟨Q, hQ⟩ : ∃ Q, UInt8.ofNat (n - 1) :: q = Q := ⟨_, rfl⟩
  rw [hP] at H1
  rw [hQ] at H2
  have lP : P.length = p.length + 1 := by rw [← hP]; rfl
  have lQ : Q.length = q.length + 1 := by rw [← hQ]; rfl
  obtain ⟨m, hm⟩ : ∃ m, P.length = m := ⟨_, rfl⟩
  obtain ⟨u, hu⟩ : ∃ u, Q.length = u := ⟨_, rfl⟩
  rw [hm] at H1 lP
  rw [hu] at H2 lQ
  have hgt : (P.drop 1).take (u - 1) = q := by rw [← hP, lQ]; simpa using e5
  have hgq : (Q.drop 1).take (u - 1) = q := by rw [← hQ, lQ]; simp
  have z0 : P[0]? = some (UInt8.ofNat n) := by rw [← hP]; rfl
  have z1 : Q[0]? = some (UInt8.ofNat (n - 1)) := by rw [← hQ]; rfl
  have HZ := Lib.hid (And.intro z0 z1)
  have HG := Lib.hid (And.intro hgt hgq)
  have HM := Lib.hid (And.intro hm hu)
  have h3m : st = 3 → m = u + 6 := fun e => by have := e9 e; omega
  have H3 := Lib.hid h3m
  have hmu : u + 6 ≤ m := by omega
  have hu1 : 1 ≤ u := by omega
  have hm9 : m ≤ 901 := by omega
  have HX := Lib.hid (And.intro e7 e8)
  have hnn : ((n : Int) - 1) = ((n - 1 : Nat) : Int) := by omega
  clear e1 e2 e3 e4 e5 e6 e7 e8 e9 e10 hP hQ lP lQ hm hu hgt hgq z0 z1 hh h3m
  go_wp2_with fail
  refine (H1.out _ (HR.out.mv (by have hs_ := hB.size; repeat (first | with_reducible exact hB | with_reducible (refine Below.setCell ?_ (by simp <;> omega) _) | with_reducible (refine Below.alloc ?_ (by first | exact hs_ | (simp <;> omega)) _) | with_reducible (refine Below.drew ?_))))).mono ?_
  rintro e w3 ⟨A3, c3, rfl, o3, bB⟩
  replace o3 := own_low o3 (show w.heap.size ≤ _ from by have hs_ := hB.size; simp <;> omega)
  replace hB := Below.via (w := w) (by have hs_ := hB.size; repeat (first | with_reducible exact hB | with_reducible (refine Below.setCell ?_ (by simp <;> omega) _) | with_reducible (refine Below.alloc ?_ (by first | exact hs_ | (simp <;> omega)) _) | with_reducible (refine Below.drew ?_))) bB
  clear bB
  go_wp2_with fail
  refine (H2.out _ (HR.out.mv (by have hs_ := hB.size; repeat (first | with_reducible exact hB | with_reducible (refine Below.setCell ?_ (by simp <;> omega) _) | with_reducible (refine Below.alloc ?_ (by first | exact hs_ | (simp <;> omega)) _) | with_reducible (refine Below.drew ?_))))).mono ?_
  rintro e w4 ⟨A4, c4, rfl, o4, bB⟩
  replace o4 := own_low o4 (show w.heap.size ≤ _ from by have hs_ := hB.size; simp <;> omega)
  replace o3 := own_call (by repeat (first | with_reducible exact o3 | (with_reducible apply own_set_; case hne => first | skip) | with_reducible (apply own_alloc_) | with_reducible (apply own_drew_))) bB
  replace hB := Below.via (w := w) (by have hs_ := hB.size; repeat (first | with_reducible exact hB | with_reducible (refine Below.setCell ?_ (by simp <;> omega) _) | with_reducible (refine Below.alloc ?_ (by first | exact hs_ | (simp <;> omega)) _) | with_reducible (refine Below.drew ?_))) bB
  clear bB
  obtain ⟨g3, rfl, _⟩ := own_head o3 (by omega)
  obtain ⟨g4, rfl, _⟩ := own_head o4 (by omega)
  have R3 := own_rd o3
  have R4 := own_rd o4
  have hc3 : m ≤ c3 := by obtain ⟨_, _, hh, _, h2, _⟩ := own_slice o3; injection hh with _ _ h3; omega
  have hc4 : u ≤ c4 := by obtain ⟨_, _, hh, _, h2, _⟩ := own_slice o4; injection hh with _ _ h3; omega
  have vn : (UInt8.ofNat n).toNat = n := by rw [UInt8.toNat_ofNat']; omega
  have vm : (UInt8.ofNat (n - 1)).toNat = n - 1 := by rw [UInt8.toNat_ofNat']; omega
  have q3 : w4.cell? ⟨g3, 0, none⟩ = some (.int .u8 (n : Int)) := reads_cell R3 (by omega) 0 (by rw [List.getElem?_map, HZ.out.1]; simp only [Option.map_some, b8, vn])
  have q4 : w4.cell? ⟨g4, 0, none⟩ = some (.int .u8 ((n - 1 : Nat) : Int)) := reads_cell R4 (by omega) 0 (by rw [List.getElem?_map, HZ.out.2]; simp only [Option.map_some, b8, vm])
  have q3q : ∀ q_, (w4.drewN q_).cell? ⟨g3, 0, none⟩ = some (.int .u8 (n : Int)) := fun q_ => q3
  have q4q : ∀ q_, (w4.drewN q_).cell? ⟨g4, 0, none⟩ = some (.int .u8 ((n - 1 : Nat) : Int)) := fun q_ => q4
  have wn : IntKind.u8.wrap (n : Int) = (n : Int) := by rw [IntKind.wrap_u8]; omega
  have wm : IntKind.u8.wrap ((n - 1 : Nat) : Int) = ((n - 1 : Nat) : Int) := by rw [IntKind.wrap_u8]; omega
  have wm2 : IntKind.u8.wrap ((n : Int) - 1) = ((n - 1 : Nat) : Int) := by rw [IntKind.wrap_u8]; omega
  have SL3 := slice_lh (k1 := .i64) (k2 := .i64) Try.underlying26 size8h (some ⟨g3, 0, none⟩) m c3 1 (u - 1) (a := 1) (b := (u : Int)) rfl (by omega) (by omega)
  have SL4 := slice_l (k1 := .i64) Try.underlying26 size8h (some ⟨g4, 0, none⟩) u c4 1 (a := 1) rfl (by omega)
  have T3 := sub_reads R3 (i := 1) (v := u - 1) (by omega) hc3
  have T4 := sub_reads R4 (i := 1) (v := u - 1) (by omega) hc4
  rw [HG.out.1] at T3
  rw [HG.out.2] at T4
  have C3 := cvS (c3 - 1) T3
  have C4 := cvS (c4 - 1) T4
  have C3q := fun q_ => cvS (c3 - 1) (Reads.drewN T3 q_)
  have C4q := fun q_ => cvS (c4 - 1) (Reads.drewN T4 q_)
  have d1 : decide ((m : Int) < (u : Int) + 6) = false := by simp; omega
  have d2 : decide ((u : Int) < 1) = false := by simp; omega
  have d3 : ¬ ((m : Int) < (u : Int) + 6) := by omega
  obtain ⟨ad, st', co, sp, df, pn, ky, hA, hab, hz, hok, c0, _⟩ := (HR.out.mv hB).at_ (k := n - 1) (by omega)
  have hst : st' = st := by
    have h1 := HX.out.1
    rw [hz] at h1
    injection h1 with h1
    rw [← HX.out.2, ← h1]
  subst hst
  subst hA
  clear hz hok R3 R4 T3 T4
  have c0q : ∀ q_, (w4.drewN q_).cell? (ad.add ((n - 1) * 6)) = some (.int .u8 (st' : Int)) := fun q_ => c0
  go_wp2_with fail
  go_quiet (fail)
  by_cases hs3 : st' = 3
  · have h6 := H3.out hs3
    subst hs3
    subst h6
    go_wp2_with fail
    go_ret
    exact ⟨rfl, below_drewN' hB nq⟩
  · have ds : ((st' : Int) != 3) = true := by simp; omega
    go_wp2_with fail
    go_ret
    exact ⟨rfl, below_drewN' hB nq⟩

end Go.Proofs.Ytljpggebpfpelaa
