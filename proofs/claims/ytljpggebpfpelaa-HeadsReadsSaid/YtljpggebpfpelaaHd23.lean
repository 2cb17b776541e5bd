/- The reference's ReadHeads. Each states its conditions. -/
import Derived.Test.YtljpggebpfpelaaHd22
namespace Go.Proofs.Ytljpggebpfpelaa
open Go.RowKit Wire
set_option linter.unusedVariables false

/-- What has been read of heads, by the reference. -/
def HrS (l : List UInt8) (n j : Nat) (L : List Rtn) (a : Nat) : Prop := rhds l = (pHds l (n - j) j a).map (fun p => (L ++ p.1, p.2)) ∧ a ≤ l.length
theorem hrS_of {l : List UInt8} {n : Nat} {e : Int} (h : NrR l 0 n e) : ((e < 0 ∨ 16 < n) → rhd l = none) ∧ (0 ≤ e → n ≤ 16 → HrS l n 0 [] e.toNat) := by
  have hm := nm_most (l := l) (a := 0) (most := 16) (by omega)
  rcases nrR_at (k := 0) h (by omega) with ⟨k1, k2⟩ | ⟨u, k2, k3, k1⟩
  · rw [k1] at hm
    refine ⟨fun _ => ?_, fun h0 => by omega⟩
    unfold rhd rhds; rw [hm]; rfl
  · rw [k1, Option.bind_some] at hm
    simp only at hm
    refine ⟨fun h0 => ?_, fun h0 h1 => ?_⟩
    · rw [if_neg (by omega)] at hm
      unfold rhd rhds; rw [hm]; rfl
    · rw [if_pos h1] at hm
      have he : e.toNat = u := by omega
      refine ⟨?_, by omega⟩
      unfold rhds; rw [hm, he]; simp
theorem hrS_no {l : List UInt8} {n j a : Nat} {L : List Rtn} (h : HrS l n j L a) (hj : j < n) (hp : pHd l j a = none) : rhd l = none := by
  unfold rhd
  rw [h.1, show n - j = (n - (j + 1)) + 1 from by omega]
  unfold pHds
  rw [hp]; rfl
theorem hrS_step {l : List UInt8} {n j a a1 : Nat} {L : List Rtn} {x : Rtn} (h : HrS l n j L a) (hj : j < n) (hp : pHd l j a = some (x, a1)) (ha : a1 ≤ l.length) : HrS l n (j + 1) (L ++ [x]) a1 := by
  refine ⟨?_, ha⟩
  rw [h.1, show n - j = (n - (j + 1)) + 1 from by omega]
  conv => lhs; unfold pHds
  rw [hp, Option.bind_some]
  simp only
  cases pHds l (n - (j + 1)) (j + 1) a1 with
  | none => rfl
  | some q => simp
theorem hrS_end {l : List UInt8} {n a : Nat} {L : List Rtn} (h : HrS l n n L a) : rhd l = if a = l.length ∧ hsB L = true then some L else none := by
  unfold rhd
  rw [h.1, Nat.sub_self]
  simp [pHds]
theorem pHd_ref {l : List UInt8} {j k v1 v2 v3 v4 v5 : Nat} {y : UInt8} {a1 a2 a3 a4 a5 : Int} (hk : k < l.length) (hy : l[k]? = some y) (h1 : NrR l (k + 1) v1 a1) (h2 : NrR l a1 v2 a2) (h3 : NrR l a2 v3 a3) (h4 : NrR l a3 v4 a4) (h5 : NrR l a4 v5 a5) :
    ((a5 < 0 ∨ 512 < v2 ∨ ¬ v3 < 2305843009213693952 ∨ ¬ v4 < 2305843009213693952) → pHd l j k = none) ∧ (0 ≤ a5 → v2 ≤ 512 → v3 < 2305843009213693952 → v4 < 2305843009213693952 → pHd l j k = some ((y.toNat, v1, 16777216 * (j + 1) + 8 * v2, 8 * v3, 8 * v4, hlf v5), a5.toNat)) := by
  unfold pHd
  rw [if_pos hk]
  rcases nrR_at (k := k + 1) h1 (by omega) with ⟨k1, k2⟩ | ⟨u1, k2, k3, k1⟩
  · have e2 := nrR_neg h2 k2; have e3 := nrR_neg h3 e2; have e4 := nrR_neg h4 e3; have e5 := nrR_neg h5 e4
    rw [k1]
    exact ⟨fun _ => rfl, fun h => by omega⟩
  subst k2
  rw [k1, Option.bind_some]; simp only
  rw [nm_most (most := 512) (by omega)]
  rcases nrR_at (k := u1) h2 k3 with ⟨k1, k2⟩ | ⟨u2, k2, k3, k1⟩
  · have e3 := nrR_neg h3 k2; have e4 := nrR_neg h4 e3; have e5 := nrR_neg h5 e4
    rw [k1]
    exact ⟨fun _ => rfl, fun h => by omega⟩
  subst k2
  rw [k1, Option.bind_some]; simp only
  by_cases g2 : v2 ≤ 512
  rotate_left
  · rw [if_neg g2]
    exact ⟨fun _ => rfl, fun _ h => by omega⟩
  rw [if_pos g2, Option.bind_some]; simp only
  rw [nm_most (most := 2305843009213693951) (by omega)]
  rcases nrR_at (k := u2) h3 k3 with ⟨k1, k2⟩ | ⟨u3, k2, k3, k1⟩
  · have e4 := nrR_neg h4 k2; have e5 := nrR_neg h5 e4
    rw [k1]
    exact ⟨fun _ => rfl, fun h => by omega⟩
  subst k2
  rw [k1, Option.bind_some]; simp only
  by_cases g3 : v3 ≤ 2305843009213693951
  rotate_left
  · rw [if_neg g3]
    exact ⟨fun _ => rfl, fun _ _ h => by omega⟩
  rw [if_pos g3, Option.bind_some]; simp only
  rw [nm_most (most := 2305843009213693951) (by omega)]
  rcases nrR_at (k := u3) h4 k3 with ⟨k1, k2⟩ | ⟨u4, k2, k3, k1⟩
  · have e5 := nrR_neg h5 k2
    rw [k1]
    exact ⟨fun _ => rfl, fun h => by omega⟩
  subst k2
  rw [k1, Option.bind_some]; simp only
  by_cases g4 : v4 ≤ 2305843009213693951
  rotate_left
  · rw [if_neg g4]
    exact ⟨fun _ => rfl, fun _ _ _ h => by omega⟩
  rw [if_pos g4, Option.bind_some]; simp only
  rcases nrR_at (k := u4) h5 k3 with ⟨k1, k2⟩ | ⟨u5, k2, k3, k1⟩
  · rw [k1]
    exact ⟨fun _ => rfl, fun h => by omega⟩
  subst k2
  rw [k1, Option.bind_some]; simp only
  refine ⟨fun h => by omega, fun _ _ _ _ => ?_⟩
  rw [hy]
  simp

set_option maxRecDepth 100000 in
set_option maxHeartbeats 6400000 in
theorem rreadHeads_any (A : Option Addr) (n c : Nat) (l : List UInt8) (w : World) (hr : Rb w A n l) (hn : l.length ≤ 200000) :
    Calls Try.prog 25 #[.slice A n c] w fun e w' => RhP w l e w' := by
  have HL := Lib.hid hr.len8
  have HR := Lib.hid hr
  have hnl : n ≤ 200000 := by rw [← hr.len8]; exact hn
  clear hr
  have hB := Below.refl w.heap.size w
  go_enter Try.func25, Try.ntmps25
  go_wp2_with fail
  refine (number27_any A n c l 0 _ (HR.out.mv (by have hs_ := hB.size; repeat (first | with_reducible exact hB | with_reducible (refine Below.setCell ?_ (by simp <;> omega) _) | with_reducible (refine Below.alloc ?_ (by first | exact hs_ | (simp <;> omega)) _) | with_reducible (refine Below.drew ?_)))) hn (by omega)).mono ?_
  rintro e w1 ⟨m, e0, rfl, h0, bB⟩
  replace hB := Below.via (w := w) (by have hs_ := hB.size; repeat (first | with_reducible exact hB | with_reducible (refine Below.setCell ?_ (by simp <;> omega) _) | with_reducible (refine Below.alloc ?_ (by first | exact hs_ | (simp <;> omega)) _) | with_reducible (refine Below.drew ?_))) bB
  clear bB
  have i0 := nrR_rng h0
  have H0 := Lib.hid (hrS_of h0)
  clear h0
  by_cases g0 : e0 < 0
  · have HE := Lib.hid (H0.out.1 (.inl g0))
    go_wp2_with fail
    go_ret2
    exact ⟨.inl ⟨HE.out, rfl⟩, (by have hs_ := hB.size; repeat (first | with_reducible exact hB | with_reducible (refine Below.setCell ?_ (by simp <;> omega) _) | with_reducible (refine Below.alloc ?_ (by first | exact hs_ | (simp <;> omega)) _) | with_reducible (refine Below.drew ?_)))⟩
  by_cases g1 : 16 < m
  · have HE := Lib.hid (H0.out.1 (.inr g1))
    have g1' : (16 : Int) < (m : Int) := by omega
    go_wp2_with fail
    go_ret2
    exact ⟨.inl ⟨HE.out, rfl⟩, (by have hs_ := hB.size; repeat (first | with_reducible exact hB | with_reducible (refine Below.setCell ?_ (by simp <;> omega) _) | with_reducible (refine Below.alloc ?_ (by first | exact hs_ | (simp <;> omega)) _) | with_reducible (refine Below.drew ?_)))⟩
  have g1' : ¬ (16 : Int) < (m : Int) := by omega
  obtain ⟨a0, rfl⟩ : ∃ a0 : Nat, e0 = (a0 : Int) := ⟨e0.toNat, by omega⟩
  have HS0 := Lib.hid (H0.out.2 (by omega) (by omega))
  have hwm : IntKind.i64.wrap (m : Int) = (m : Int) := by rw [IntKind.wrap_i64]; omega
  clear H0 g0
  go_wp2_with fail
  go_loopw [5, 6, 7] (fun a v i wr => ∃ (j k : Nat) (A1 : Option Addr) (c1 : Nat) (L : List Rtn), j ≤ m ∧ i = .int .i64 (j : Int) ∧ a = .int .i64 (k : Int) ∧ v = .slice A1 j c1 ∧ wr.ownsRow w.heap.size 53 6 (.slice A1 j c1) j (L.map rtC).flatten ∧ L.length = j ∧ (∀ x ∈ L, rtOk x) ∧ HrS l m j L k ∧ Below w.heap.size w wr) (fun _ _ i _ => m - (intOf i).toNat)
  case atStart => exact ⟨0, a0, none, 0, [], by omega, rfl, rfl, rfl, World.ownsRow_nil _ _ _ _, rfl, by simp, by have h := HS0.out; simpa using h, hB⟩
  case round =>
    clear hB HS0 i0
    obtain ⟨j, k, A1, c1, L, hj, rfl, rfl, rfl, o1, hL, hok, hS, hB⟩ := hrel
    have hkl := hS.2
    have HS := Lib.hid hS
    have HLL := Lib.hid hL
    have HO := Lib.hid hok
    clear hS hL hok
    by_cases hlt : j < m
    · by_cases g2 : n ≤ k
      · have HE := Lib.hid (hrS_no HS.out hlt (by unfold pHd; rw [if_neg (by have := HL.out; omega)]))
        have g2' : (k : Int) ≥ (n : Int) := by omega
        go_wp2_with fail
        go_ret2
        exact ⟨.inl ⟨HE.out, rfl⟩, (by have hs_ := hB.size; repeat (first | with_reducible exact hB | with_reducible (refine Below.setCell ?_ (by simp <;> omega) _) | with_reducible (refine Below.alloc ?_ (by first | exact hs_ | (simp <;> omega)) _) | with_reducible (refine Below.drew ?_)))⟩
      have hkn : k < n := by omega
      have g2' : ¬ ((n : Int) ≤ (k : Int)) := by omega
      obtain ⟨ad, yc, hA, hadb, hy, hc0⟩ := (HR.out.mv hB).byte hkn
      obtain ⟨y, hyy⟩ : ∃ y, yc.toNat = y := ⟨_, rfl⟩
      have hy256 : y < 256 := by have := yc.toNat_lt; omega
      rw [hyy] at hc0
      have HY := Lib.hid hy
      have HYY := Lib.hid hyy
      have HA := Lib.hid hA
      have HD := Lib.hid (fun W (h : Rb W A n l) => number27_any A n c l ((k : Int) + 1) W h hn (by omega))
      have HR0 := HR
      clear hy hyy
      subst hA
      go_wp2_with fail
      refine (number27_any (some ad) n c l ((k : Int) + 1) _ (HR.out.mv (by have hs_ := hB.size; repeat (first | with_reducible exact hB | with_reducible (refine Below.setCell ?_ (by simp <;> omega) _) | with_reducible (refine Below.alloc ?_ (by first | exact hs_ | (simp <;> omega)) _) | with_reducible (refine Below.drew ?_)))) hn (by omega)).mono ?_
      rintro e w1 ⟨v1, a1, rfl, h1, bB⟩
      have ne_o1_hx : (Value.slice A1 j c1).ownBlock ≠ some wr.heap.size := own_not_ge o1 (by omega)
      have ow_hx : w.heap.size ≤ wr.heap.size := (by have := hB.size; omega)
      replace o1 := own_call (by repeat (first | with_reducible exact o1 | (with_reducible apply own_set_; case hne => first | skip) | with_reducible (apply own_alloc_) | with_reducible (apply own_drew_))) bB
      have hx := Blk.via0 (g := wr.heap.size) (t := 53) bB (by repeat (first | with_reducible exact Blk.newAt (by simp) _ _ | with_reducible (apply Blk.set_) | with_reducible (apply Blk.far; case hp => (simp <;> omega)) | with_reducible (apply Blk.alloc) | with_reducible (apply Blk.drew)))
      replace hx : Blk w1 wr.heap.size 53 #[.int .u8 (y : Int), .int .u64 0, .int .u64 0, .int .u64 0, .int .u64 0, .int .i64 0] := hx
      replace hB := Below.via (w := w) (by have hs_ := hB.size; repeat (first | with_reducible exact hB | with_reducible (refine Below.setCell ?_ (by simp <;> omega) _) | with_reducible (refine Below.alloc ?_ (by first | exact hs_ | (simp <;> omega)) _) | with_reducible (refine Below.drew ?_))) bB
      clear bB
      generalize wr.heap.size = q at *
      have H1 := Lib.hid h1
      have i1 := nrR_rng h1
      clear h1
      have z1 : w1.cell? ⟨q, 0, none⟩ = some (.int .u8 (y : Int)) := (hx.cell 0).trans rfl
      have z2 := hx.frozen 0
      have z3 : w1.cell? ⟨q, 1, none⟩ = some (.int .u64 0) := (hx.cell 1).trans rfl
      have z4 := hx.frozen 1
      have z5 : w1.cell? ⟨q, 2, none⟩ = some (.int .u64 0) := (hx.cell 2).trans rfl
      have z6 := hx.frozen 2
      have z7 : w1.cell? ⟨q, 3, none⟩ = some (.int .u64 0) := (hx.cell 3).trans rfl
      have z8 := hx.frozen 3
      have z9 : w1.cell? ⟨q, 4, none⟩ = some (.int .u64 0) := (hx.cell 4).trans rfl
      have z10 := hx.frozen 4
      have z11 : w1.cell? ⟨q, 5, none⟩ = some (.int .i64 0) := (hx.cell 5).trans rfl
      have z12 := hx.frozen 5
      have z13 := hx.lt
      go_wp2_with fail
      refine (number27_any (some ad) n c l a1 _ (HR.out.mv (by have hs_ := hB.size; repeat (first | with_reducible exact hB | with_reducible (refine Below.setCell ?_ (by simp <;> omega) _) | with_reducible (refine Below.alloc ?_ (by first | exact hs_ | (simp <;> omega)) _) | with_reducible (refine Below.drew ?_)))) hn (by omega)).mono ?_
      rintro e w2 ⟨v2, a2, rfl, h2, bB⟩
      replace hx := Blk.via0 (g := q) (t := 53) bB (by repeat (first | with_reducible exact hx | with_reducible (apply Blk.set_) | with_reducible (apply Blk.far; case hp => (simp <;> omega)) | with_reducible (apply Blk.alloc) | with_reducible (apply Blk.drew)))
      replace hx : Blk w2 q 53 #[.int .u8 (y : Int), .int .u64 (v1 : Int), .int .u64 0, .int .u64 0, .int .u64 0, .int .i64 0] := hx
      replace o1 := own_call (by repeat (first | with_reducible exact o1 | (with_reducible apply own_set_; case hne => first | exact ne_o1_hx) | with_reducible (apply own_alloc_) | with_reducible (apply own_drew_))) bB
      replace hB := Below.via (w := w) (by have hs_ := hB.size; repeat (first | with_reducible exact hB | with_reducible (refine Below.setCell ?_ (by simp <;> omega) _) | with_reducible (refine Below.alloc ?_ (by first | exact hs_ | (simp <;> omega)) _) | with_reducible (refine Below.drew ?_))) bB
      clear z1 z2 z3 z4 z5 z6 z7 z8 z9 z10 z11 z12 z13
      clear bB
      have H2 := Lib.hid h2
      have i2 := nrR_rng h2
      clear h2
      have z14 : w2.cell? ⟨q, 0, none⟩ = some (.int .u8 (y : Int)) := (hx.cell 0).trans rfl
      have z15 := hx.frozen 0
      have z16 : w2.cell? ⟨q, 1, none⟩ = some (.int .u64 (v1 : Int)) := (hx.cell 1).trans rfl
      have z17 := hx.frozen 1
      have z18 : w2.cell? ⟨q, 2, none⟩ = some (.int .u64 0) := (hx.cell 2).trans rfl
      have z19 := hx.frozen 2
      have z20 : w2.cell? ⟨q, 3, none⟩ = some (.int .u64 0) := (hx.cell 3).trans rfl
      have z21 := hx.frozen 3
      have z22 : w2.cell? ⟨q, 4, none⟩ = some (.int .u64 0) := (hx.cell 4).trans rfl
      have z23 := hx.frozen 4
      have z24 : w2.cell? ⟨q, 5, none⟩ = some (.int .i64 0) := (hx.cell 5).trans rfl
      have z25 := hx.frozen 5
      have z26 := hx.lt
      go_wp2_with fail
      refine (number27_any (some ad) n c l a2 _ (HR.out.mv (by have hs_ := hB.size; repeat (first | with_reducible exact hB | with_reducible (refine Below.setCell ?_ (by simp <;> omega) _) | with_reducible (refine Below.alloc ?_ (by first | exact hs_ | (simp <;> omega)) _) | with_reducible (refine Below.drew ?_)))) hn (by omega)).mono ?_
      rintro e w3 ⟨v3, a3, rfl, h3, bB⟩
      replace hx := Blk.via0 (g := q) (t := 53) bB (by repeat (first | with_reducible exact hx | with_reducible (apply Blk.set_) | with_reducible (apply Blk.far; case hp => (simp <;> omega)) | with_reducible (apply Blk.alloc) | with_reducible (apply Blk.drew)))
      replace hx : Blk w3 q 53 #[.int .u8 (y : Int), .int .u64 (v1 : Int), .int .u64 0, .int .u64 0, .int .u64 0, .int .i64 0] := hx
      replace o1 := own_call (by repeat (first | with_reducible exact o1 | (with_reducible apply own_set_; case hne => first | exact ne_o1_hx) | with_reducible (apply own_alloc_) | with_reducible (apply own_drew_))) bB
      replace hB := Below.via (w := w) (by have hs_ := hB.size; repeat (first | with_reducible exact hB | with_reducible (refine Below.setCell ?_ (by simp <;> omega) _) | with_reducible (refine Below.alloc ?_ (by first | exact hs_ | (simp <;> omega)) _) | with_reducible (refine Below.drew ?_))) bB
      clear z14 z15 z16 z17 z18 z19 z20 z21 z22 z23 z24 z25 z26
      clear bB
      have H3 := Lib.hid h3
      have i3 := nrR_rng h3
      clear h3
      have z27 : w3.cell? ⟨q, 0, none⟩ = some (.int .u8 (y : Int)) := (hx.cell 0).trans rfl
      have z28 := hx.frozen 0
      have z29 : w3.cell? ⟨q, 1, none⟩ = some (.int .u64 (v1 : Int)) := (hx.cell 1).trans rfl
      have z30 := hx.frozen 1
      have z31 : w3.cell? ⟨q, 2, none⟩ = some (.int .u64 0) := (hx.cell 2).trans rfl
      have z32 := hx.frozen 2
      have z33 : w3.cell? ⟨q, 3, none⟩ = some (.int .u64 0) := (hx.cell 3).trans rfl
      have z34 := hx.frozen 3
      have z35 : w3.cell? ⟨q, 4, none⟩ = some (.int .u64 0) := (hx.cell 4).trans rfl
      have z36 := hx.frozen 4
      have z37 : w3.cell? ⟨q, 5, none⟩ = some (.int .i64 0) := (hx.cell 5).trans rfl
      have z38 := hx.frozen 5
      have z39 := hx.lt
      go_wp2_with fail
      refine (number27_any (some ad) n c l a3 _ (HR.out.mv (by have hs_ := hB.size; repeat (first | with_reducible exact hB | with_reducible (refine Below.setCell ?_ (by simp <;> omega) _) | with_reducible (refine Below.alloc ?_ (by first | exact hs_ | (simp <;> omega)) _) | with_reducible (refine Below.drew ?_)))) hn (by omega)).mono ?_
      rintro e w4 ⟨v4, a4, rfl, h4, bB⟩
      replace hx := Blk.via0 (g := q) (t := 53) bB (by repeat (first | with_reducible exact hx | with_reducible (apply Blk.set_) | with_reducible (apply Blk.far; case hp => (simp <;> omega)) | with_reducible (apply Blk.alloc) | with_reducible (apply Blk.drew)))
      replace hx : Blk w4 q 53 #[.int .u8 (y : Int), .int .u64 (v1 : Int), .int .u64 0, .int .u64 0, .int .u64 0, .int .i64 0] := hx
      replace o1 := own_call (by repeat (first | with_reducible exact o1 | (with_reducible apply own_set_; case hne => first | exact ne_o1_hx) | with_reducible (apply own_alloc_) | with_reducible (apply own_drew_))) bB
      replace hB := Below.via (w := w) (by have hs_ := hB.size; repeat (first | with_reducible exact hB | with_reducible (refine Below.setCell ?_ (by simp <;> omega) _) | with_reducible (refine Below.alloc ?_ (by first | exact hs_ | (simp <;> omega)) _) | with_reducible (refine Below.drew ?_))) bB
      clear z27 z28 z29 z30 z31 z32 z33 z34 z35 z36 z37 z38 z39
      clear bB
      have H4 := Lib.hid h4
      have i4 := nrR_rng h4
      clear h4
      have z40 : w4.cell? ⟨q, 0, none⟩ = some (.int .u8 (y : Int)) := (hx.cell 0).trans rfl
      have z41 := hx.frozen 0
      have z42 : w4.cell? ⟨q, 1, none⟩ = some (.int .u64 (v1 : Int)) := (hx.cell 1).trans rfl
      have z43 := hx.frozen 1
      have z44 : w4.cell? ⟨q, 2, none⟩ = some (.int .u64 0) := (hx.cell 2).trans rfl
      have z45 := hx.frozen 2
      have z46 : w4.cell? ⟨q, 3, none⟩ = some (.int .u64 0) := (hx.cell 3).trans rfl
      have z47 := hx.frozen 3
      have z48 : w4.cell? ⟨q, 4, none⟩ = some (.int .u64 0) := (hx.cell 4).trans rfl
      have z49 := hx.frozen 4
      have z50 : w4.cell? ⟨q, 5, none⟩ = some (.int .i64 0) := (hx.cell 5).trans rfl
      have z51 := hx.frozen 5
      have z52 := hx.lt
      go_wp2_with fail
      refine (number27_any (some ad) n c l a4 _ (HR.out.mv (by have hs_ := hB.size; repeat (first | with_reducible exact hB | with_reducible (refine Below.setCell ?_ (by simp <;> omega) _) | with_reducible (refine Below.alloc ?_ (by first | exact hs_ | (simp <;> omega)) _) | with_reducible (refine Below.drew ?_)))) hn (by omega)).mono ?_
      rintro e w5 ⟨v5, a5, rfl, h5, bB⟩
      replace hx := Blk.via0 (g := q) (t := 53) bB (by repeat (first | with_reducible exact hx | with_reducible (apply Blk.set_) | with_reducible (apply Blk.far; case hp => (simp <;> omega)) | with_reducible (apply Blk.alloc) | with_reducible (apply Blk.drew)))
      replace hx : Blk w5 q 53 #[.int .u8 (y : Int), .int .u64 (v1 : Int), .int .u64 0, .int .u64 0, .int .u64 0, .int .i64 0] := hx
      replace o1 := own_call (by repeat (first | with_reducible exact o1 | (with_reducible apply own_set_; case hne => first | exact ne_o1_hx) | with_reducible (apply own_alloc_) | with_reducible (apply own_drew_))) bB
      replace hB := Below.via (w := w) (by have hs_ := hB.size; repeat (first | with_reducible exact hB | with_reducible (refine Below.setCell ?_ (by simp <;> omega) _) | with_reducible (refine Below.alloc ?_ (by first | exact hs_ | (simp <;> omega)) _) | with_reducible (refine Below.drew ?_))) bB
      clear z40 z41 z42 z43 z44 z45 z46 z47 z48 z49 z50 z51 z52
      clear bB
      have H5 := Lib.hid h5
      have i5 := nrR_rng h5
      clear h5
      have z53 : w5.cell? ⟨q, 0, none⟩ = some (.int .u8 (y : Int)) := (hx.cell 0).trans rfl
      have z54 := hx.frozen 0
      have z55 : w5.cell? ⟨q, 1, none⟩ = some (.int .u64 (v1 : Int)) := (hx.cell 1).trans rfl
      have z56 := hx.frozen 1
      have z57 : w5.cell? ⟨q, 2, none⟩ = some (.int .u64 0) := (hx.cell 2).trans rfl
      have z58 := hx.frozen 2
      have z59 : w5.cell? ⟨q, 3, none⟩ = some (.int .u64 0) := (hx.cell 3).trans rfl
      have z60 := hx.frozen 3
      have z61 : w5.cell? ⟨q, 4, none⟩ = some (.int .u64 0) := (hx.cell 4).trans rfl
      have z62 := hx.frozen 4
      have z63 : w5.cell? ⟨q, 5, none⟩ = some (.int .i64 0) := (hx.cell 5).trans rfl
      have z64 := hx.frozen 5
      have z65 := hx.lt
      go_wp2_with fail
      refine (eight27_any v3 _ i3.1).mono ?_
      rintro e wq ⟨z3, rfl, hz3, hz3e, rfl⟩
      have HZ3 := Lib.hid hz3e
      clear hz3e
      go_wp2_with fail
      refine (eight27_any v4 _ i4.1).mono ?_
      rintro e wq ⟨z4, rfl, hz4, hz4e, rfl⟩
      have HZ4 := Lib.hid hz4e
      clear hz4e
      have HP := Lib.hid (pHd_ref (j := j) (by have := HL.out; omega) HY.out H1.out H2.out H3.out H4.out H5.out)
      clear H1 H2 H3 H4 H5 HY
      by_cases g3 : a5 < 0
      · have HE := Lib.hid (hrS_no HS.out hlt (HP.out.1 (by omega)))
        skip
        go_wp2_with fail
        go_ret2
        exact ⟨.inl ⟨HE.out, rfl⟩, (by have hs_ := hB.size; repeat (first | with_reducible exact hB | with_reducible (refine Below.setCell ?_ (by simp <;> omega) _) | with_reducible (refine Below.alloc ?_ (by first | exact hs_ | (simp <;> omega)) _) | with_reducible (refine Below.drew ?_)))⟩
      have f0 : ¬ a5 < 0 := g3
      have p925 := g3
      clear g3
      by_cases g3 : 512 < v2
      · have HE := Lib.hid (hrS_no HS.out hlt (HP.out.1 (by omega)))
        have f1 : (512 : Int) < (v2 : Int) := by omega
        go_wp2_with fail
        go_ret2
        exact ⟨.inl ⟨HE.out, rfl⟩, (by have hs_ := hB.size; repeat (first | with_reducible exact hB | with_reducible (refine Below.setCell ?_ (by simp <;> omega) _) | with_reducible (refine Below.alloc ?_ (by first | exact hs_ | (simp <;> omega)) _) | with_reducible (refine Below.drew ?_)))⟩
      have f1 : ¬ (512 : Int) < (v2 : Int) := by omega
      have p557 := g3
      clear g3
      by_cases g3 : ¬ v3 < 2305843009213693952
      · have HE := Lib.hid (hrS_no HS.out hlt (HP.out.1 (by omega)))
        rw [decide_eq_false g3]
        go_wp2_with fail
        go_ret2
        exact ⟨.inl ⟨HE.out, rfl⟩, (by have hs_ := hB.size; repeat (first | with_reducible exact hB | with_reducible (refine Below.setCell ?_ (by simp <;> omega) _) | with_reducible (refine Below.alloc ?_ (by first | exact hs_ | (simp <;> omega)) _) | with_reducible (refine Below.drew ?_)))⟩
      rw [decide_eq_true (Decidable.not_not.1 g3)]
      have p444 := g3
      clear g3
      by_cases g3 : ¬ v4 < 2305843009213693952
      · have HE := Lib.hid (hrS_no HS.out hlt (HP.out.1 (by omega)))
        rw [decide_eq_false g3]
        go_wp2_with fail
        go_ret2
        exact ⟨.inl ⟨HE.out, rfl⟩, (by have hs_ := hB.size; repeat (first | with_reducible exact hB | with_reducible (refine Below.setCell ?_ (by simp <;> omega) _) | with_reducible (refine Below.alloc ?_ (by first | exact hs_ | (simp <;> omega)) _) | with_reducible (refine Below.drew ?_)))⟩
      rw [decide_eq_true (Decidable.not_not.1 g3)]
      have p693 := g3
      clear g3
      obtain ⟨k5, rfl⟩ : ∃ k5 : Nat, a5 = (k5 : Int) := ⟨a5.toNat, by omega⟩
      have hp := HP.out.2 (by omega) (by omega) (by omega) (by omega)
      rw [HYY.out] at hp
      have e3 := HZ3.out (by omega)
      have e4 := HZ4.out (by omega)
      rw [← e3, ← e4] at hp
      have hbw := i5.1
      have hlf5 := hlf_rng hbw
      obtain ⟨ky, hky⟩ : ∃ ky, hlf v5 = ky := ⟨_, rfl⟩
      have HH := Lib.hid (fun W => half_any v5 hbw W)
      rw [hky] at hp hlf5 HH
      obtain ⟨e8, he8⟩ : ∃ e8, 8 * v2 = e8 := ⟨_, rfl⟩
      obtain ⟨bs, hbs⟩ : ∃ bs, 16777216 * (j + 1) = bs := ⟨_, rfl⟩
      obtain ⟨sp, hsp⟩ : ∃ sp, bs + e8 = sp := ⟨_, rfl⟩
      rw [he8, hbs, hsp] at hp
      have hw1 : IntKind.u64.wrap (8 * (v2 : Int)) = (e8 : Int) := by rw [IntKind.wrap_u64]; omega
      have hw2 : IntKind.u64.wrap ((bs : Int) + (e8 : Int)) = (sp : Int) := by rw [IntKind.wrap_u64]; omega
      have HBS := Lib.hid (fun W => rbase27_any j W (by omega))
      rw [hbs] at HBS
      have hok5 : rtOk (y, v1, sp, z3, z4, ky) := ⟨hy256, i1.1, by show sp < _; omega, hz3, hz4, hlf5⟩
      have HST := Lib.hid (hrS_step HS.out hlt hp (by have := HL.out; have := i5.2.2; simpa using this))
      have HOK := Lib.hid hok5
      clear hp hky he8 hbs hsp hok5 hlf5 HP HZ3 HZ4 e3 e4 HS
      go_wp2_with fail
      refine (HBS.out _).mono ?_
      rintro e wq ⟨rfl, rfl⟩
      go_wp2_with fail
      refine (HH.out _).mono ?_
      rintro e wq ⟨rfl, rfl⟩
      go_wp2_with (at_builtin; refine wpList_app rfl (.tmp 112) (.tmp 114) _ rfl slRT w.heap.size (.slice A1 j c1) j _ (by rfl) (by repeat (first | with_reducible exact o1 | (with_reducible apply own_set_; case hne => first | exact ne_o1_hx) | with_reducible (apply own_alloc_) | with_reducible (apply own_drew_))) _ _ 1 1 [.int .u8 (y : Int), .int .u64 (v1 : Int), .int .u64 (sp : Int), .int .u64 (z3 : Int), .int .u64 (z4 : Int), .int .i64 ky] rfl (reads_blk (t := 53) (cs := #[.int .u8 (y : Int), .int .u64 (v1 : Int), .int .u64 (sp : Int), .int .u64 (z3 : Int), .int .u64 (z4 : Int), .int .i64 ky]) (Blk.newAt (by simp) _ _) 6 1 rfl) (by simp [Value.oneCell']) (by omega) (by have hs_ := hB.size; simp <;> omega) ?_; intro A7 c7 w7 o7 hg7 b7 hc7; replace hB : Below w.heap.size w w7 := Below.trans (by have hs_ := hB.size; repeat (first | with_reducible exact hB | with_reducible (refine Below.setCell ?_ (by simp <;> omega) _) | with_reducible (refine Below.alloc ?_ (by first | exact hs_ | (simp <;> omega)) _) | with_reducible (refine Below.drew ?_))) b7)
      go_roundw
      case rel => exact ⟨j + 1, k5, A7, c7, L ++ [(y, v1, sp, z3, z4, ky)], by omega, by go_num, rfl, rfl, by simpa [rtC] using o7, by simp [HLL.out], by intro y' hy; rcases List.mem_append.1 hy with h | h; exact HO.out y' h; simp at h; subst h; exact HOK.out, by have h := HST.out; simpa using h, hB⟩
      case measure => simp [intOf]; omega
    · obtain rfl : j = m := by omega
      have HE0 := Lib.hid (hrS_end HS.out)
      clear HS
      by_cases g2 : k = n
      rotate_left
      · have HE := Lib.hid (show rhd l = none from by rw [HE0.out, if_neg (fun h => g2 (by have := HL.out; omega))])
        have g3 : ((k : Int) != (n : Int)) = true := by rw [bne_iff_ne]; omega
        go_wp2_with fail
        go_ret2
        exact ⟨.inl ⟨HE.out, rfl⟩, (by have hs_ := hB.size; repeat (first | with_reducible exact hB | with_reducible (refine Below.setCell ?_ (by simp <;> omega) _) | with_reducible (refine Below.alloc ?_ (by first | exact hs_ | (simp <;> omega)) _) | with_reducible (refine Below.drew ?_)))⟩
      subst g2
      have HT := Lib.hid (show RdT wr A1 j L from ⟨HLL.out, own_reads o1, HO.out⟩)
      go_wp2_with fail
      refine (heads27_any A1 j c1 L _ HT.out).mono ?_
      rintro e w8 ⟨rfl, b8_⟩
      replace hB := hB.trans (b8_.mono hB.size)
      cases hh : hsB L
      · have HE := Lib.hid (show rhd l = none from by rw [HE0.out, if_neg (by rw [hh]; simp)])
        clear hh
        go_wp2_with fail
        go_ret2
        exact ⟨.inl ⟨HE.out, rfl⟩, (by have hs_ := hB.size; repeat (first | with_reducible exact hB | with_reducible (refine Below.setCell ?_ (by simp <;> omega) _) | with_reducible (refine Below.alloc ?_ (by first | exact hs_ | (simp <;> omega)) _) | with_reducible (refine Below.drew ?_)))⟩
      · have HE := Lib.hid (show rhd l = some L from by rw [HE0.out, if_pos ⟨HL.out.symm, hh⟩])
        clear hh
        go_wp2_with fail
        go_ret2
        exact ⟨.inr ⟨L, A1, c1, HE.out, by rw [HLL.out]; rfl, by rw [HLL.out]; exact HT.out.mv b8_⟩, hB⟩

end Go.Proofs.Ytljpggebpfpelaa
