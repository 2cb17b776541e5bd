/- The reference's ReadChains. Each states its conditions. -/
import Derived.Test.YtljpggebpfpelaaHd22
import Derived.Test.YtljpggebpfpelaaHd17
namespace Go.Proofs.Ytljpggebpfpelaa
open Go.RowKit Wire
set_option linter.unusedVariables false

/-- What has been read of chains, by the reference. -/
def CrS (l : List UInt8) (n j : Nat) (L : List (List Nat)) (a : Nat) : Prop := rchs l = (pChs l (n - j) a).map (fun p => (L ++ p.1, p.2)) ∧ a ≤ l.length
theorem crS_of {l : List UInt8} {n : Nat} {e : Int} (h : NrR l 0 n e) : ((e < 0 ∨ 16 < n) → rch l = none) ∧ (0 ≤ e → n ≤ 16 → CrS l n 0 [] e.toNat) := by
  have hm := nm_most (l := l) (a := 0) (most := 16) (by omega)
  rcases nrR_at (k := 0) h (by omega) with ⟨k1, k2⟩ | ⟨u, k2, k3, k1⟩
  · rw [k1] at hm
    refine ⟨fun _ => ?_, fun h0 => by omega⟩
    unfold rch rchs; rw [hm]; rfl
  · rw [k1, Option.bind_some] at hm
    simp only at hm
    refine ⟨fun h0 => ?_, fun h0 h1 => ?_⟩
    · rw [if_neg (by omega)] at hm
      unfold rch rchs; rw [hm]; rfl
    · rw [if_pos h1] at hm
      have he : e.toNat = u := by omega
      refine ⟨?_, by omega⟩
      unfold rchs; rw [hm, he]; simp
theorem crS_no {l : List UInt8} {n j a : Nat} {L : List (List Nat)} (h : CrS l n j L a) (hj : j < n) (hp : pCh l a = none) : rch l = none := by
  unfold rch
  rw [h.1, show n - j = (n - (j + 1)) + 1 from by omega]
  unfold pChs
  rw [hp]; rfl
theorem crS_step {l : List UInt8} {n j a a1 : Nat} {L : List (List Nat)} {x : List Nat} (h : CrS l n j L a) (hj : j < n) (hp : pCh l a = some (x, a1)) (ha : a1 ≤ l.length) : CrS l n (j + 1) (L ++ [x]) a1 := by
  refine ⟨?_, ha⟩
  rw [h.1, show n - j = (n - (j + 1)) + 1 from by omega]
  conv => lhs; unfold pChs
  rw [hp, Option.bind_some]
  simp only
  cases pChs l (n - (j + 1)) a1 with
  | none => rfl
  | some q => simp
theorem crS_end {l : List UInt8} {n a : Nat} {L : List (List Nat)} (h : CrS l n n L a) : rch l = if a = l.length ∧ csB L = true then some L else none := by
  unfold rch
  rw [h.1, Nat.sub_self]
  simp [pChs]
theorem pCh_ref {l : List UInt8} {k m : Nat} {e : Int} (hk : k ≤ l.length) (h : NrR l (k : Int) m e) : ((e < 0 ∨ 410 < m) → pCh l k = none) ∧ (0 ≤ e → m ≤ 410 → pCh l k = (pAd l (m - 0) e.toNat).map (fun p => (([] : List Nat) ++ p.1, p.2))) := by
  unfold pCh
  rw [nm_most (most := 410) (by omega)]
  rcases nrR_at (k := k) h hk with ⟨k1, k2⟩ | ⟨u, k2, k3, k1⟩
  · rw [k1]
    exact ⟨fun _ => rfl, fun h => by omega⟩
  subst k2
  rw [k1, Option.bind_some]; simp only
  refine ⟨fun h => ?_, fun _ h => ?_⟩
  · rw [if_neg (by omega)]; rfl
  · rw [if_pos h, Option.bind_some]; simp
theorem pAd_ref {l : List UInt8} {k m t a x : Nat} {li : List Nat} {e : Int} (h0 : pCh l k = (pAd l (m - t) a).map (fun p => (li ++ p.1, p.2))) (ht : t < m) (ha : a ≤ l.length) (h : NrR l (a : Int) x e) :
    ((e < 0 ∨ ¬ x < 2305843009213693952) → pCh l k = none) ∧ (0 ≤ e → x < 2305843009213693952 → pCh l k = (pAd l (m - (t + 1)) e.toNat).map (fun p => ((li ++ [8 * x]) ++ p.1, p.2))) := by
  rw [h0, show m - t = (m - (t + 1)) + 1 from by omega]
  have hu : pAd l (m - (t + 1) + 1) a = (nm l a 2305843009213693951).bind fun p => (pAd l (m - (t + 1)) p.2).bind fun q => some (8 * p.1 :: q.1, q.2) := rfl
  rw [hu, nm_most (most := 2305843009213693951) (by omega)]
  rcases nrR_at (k := a) h ha with ⟨k1, k2⟩ | ⟨u, k2, k3, k1⟩
  · rw [k1]
    exact ⟨fun _ => rfl, fun h => by omega⟩
  subst k2
  rw [k1, Option.bind_some]; simp only
  refine ⟨fun h => ?_, fun _ h => ?_⟩
  · rw [if_neg (by omega)]; rfl
  · rw [if_pos (by omega), Option.bind_some]
    simp only [Int.toNat_natCast]
    cases pAd l (m - (t + 1)) u with
    | none => rfl
    | some q => simp
theorem Inn.call {w w' : World} {B : Nat} {vs : List Value} {LL : List (List Nat)} (h : Inn w B vs LL) (b : Below w.heap.size w w') : Inn w' B vs LL := h.map fun v n xs ho => own_call ho b

set_option maxRecDepth 100000 in
set_option maxHeartbeats 6400000 in
theorem rreadChains_any (A : Option Addr) (n c : Nat) (l : List UInt8) (w : World) (hr : Rb w A n l) (hn : l.length ≤ 200000) :
    Calls Try.prog 26 #[.slice A n c] w fun e w' => RcP w l e w' := by
  have HL := Lib.hid hr.len8
  have HR := Lib.hid hr
  have hnl : n ≤ 200000 := by rw [← hr.len8]; exact hn
  clear hr
  have hB := Below.refl w.heap.size w
  go_enter Try.func26, Try.ntmps26
  go_wp2_with fail
  refine (number27_any A n c l 0 _ (HR.out.mv (by have hs_ := hB.size; repeat (first | with_reducible exact hB | with_reducible (refine Below.setCell ?_ (by simp <;> omega) _) | with_reducible (refine Below.alloc ?_ (by first | exact hs_ | (simp <;> omega)) _) | with_reducible (refine Below.drew ?_)))) hn (by omega)).mono ?_
  rintro e w1 ⟨m, e0, rfl, h0, bB⟩
  replace hB := Below.via (w := w) (by have hs_ := hB.size; repeat (first | with_reducible exact hB | with_reducible (refine Below.setCell ?_ (by simp <;> omega) _) | with_reducible (refine Below.alloc ?_ (by first | exact hs_ | (simp <;> omega)) _) | with_reducible (refine Below.drew ?_))) bB
  clear bB
  have i0 := nrR_rng h0
  have H0 := Lib.hid (crS_of h0)
  clear h0
  by_cases g0 : e0 < 0
  · have HE := Lib.hid (H0.out.1 (.inl g0))
    go_wp2_with fail
    go_ret2
    exact ⟨.inl ⟨HE.out, rfl⟩, (by have hs_ := hB.size; repeat (first | with_reducible exact hB | with_reducible (refine Below.setCell ?_ (by simp <;> omega) _) | with_reducible (refine Below.alloc ?_ (by first | exact hs_ | (simp <;> omega)) _) | with_reducible (refine Below.drew ?_)))⟩
  by_cases g1 : 16 < m
  · have HE := Lib.hid (H0.out.1 (.inr g1))
    have g1' : (16 : Int) < (m : Int) := by omega
    go_wp2_with fail
    go_ret2
    exact ⟨.inl ⟨HE.out, rfl⟩, (by have hs_ := hB.size; repeat (first | with_reducible exact hB | with_reducible (refine Below.setCell ?_ (by simp <;> omega) _) | with_reducible (refine Below.alloc ?_ (by first | exact hs_ | (simp <;> omega)) _) | with_reducible (refine Below.drew ?_)))⟩
  have g1' : ¬ (16 : Int) < (m : Int) := by omega
  obtain ⟨a0, rfl⟩ : ∃ a0 : Nat, e0 = (a0 : Int) := ⟨e0.toNat, by omega⟩
  have HS0 := Lib.hid (H0.out.2 (by omega) (by omega))
  have hwm : IntKind.i64.wrap (m : Int) = (m : Int) := by rw [IntKind.wrap_i64]; omega
  clear H0 g0
  go_wp2_with fail
  go_loopw [5, 6, 7] (fun a v i wr => ∃ (j k : Nat) (A1 : Option Addr) (c1 : Nat) (LL : List (List Nat)) (vs : List Value), j ≤ m ∧ i = .int .i64 (j : Int) ∧ a = .int .i64 (k : Int) ∧ v = .slice A1 j c1 ∧ wr.ownsRow w.heap.size 63 1 (.slice A1 j c1) j vs ∧ Inn wr w.heap.size vs LL ∧ LL.length = j ∧ CrS l m j LL k ∧ Below w.heap.size w wr) (fun _ _ i _ => m - (intOf i).toNat)
  case atStart => exact ⟨0, a0, none, 0, [], [], by omega, rfl, rfl, rfl, World.ownsRow_nil _ _ _ _, Inn.nil _ _, rfl, by have h := HS0.out; simpa using h, hB⟩
  case round =>
    clear hB HS0 i0
    obtain ⟨j, k, A1, c1, LL, vs, hj, rfl, rfl, rfl, o1, hI, hL, hS, hB⟩ := hrel
    have hkl := hS.2
    have HS := Lib.hid hS
    have HLL := Lib.hid hL
    clear hS hL
    by_cases hlt : j < m
    · go_wp2_with fail
      refine (number27_any A n c l (k : Int) _ (HR.out.mv (by have hs_ := hB.size; repeat (first | with_reducible exact hB | with_reducible (refine Below.setCell ?_ (by simp <;> omega) _) | with_reducible (refine Below.alloc ?_ (by first | exact hs_ | (simp <;> omega)) _) | with_reducible (refine Below.drew ?_)))) hn (by have := HL.out; omega)).mono ?_
      rintro e w1 ⟨q, e1, rfl, h1, bB⟩
      replace hI := hI.call bB
      replace o1 := own_call (by repeat (first | with_reducible exact o1 | (with_reducible apply own_set_; case hne => first | skip) | with_reducible (apply own_alloc_) | with_reducible (apply own_drew_))) bB
      replace hB := Below.via (w := w) (by have hs_ := hB.size; repeat (first | with_reducible exact hB | with_reducible (refine Below.setCell ?_ (by simp <;> omega) _) | with_reducible (refine Below.alloc ?_ (by first | exact hs_ | (simp <;> omega)) _) | with_reducible (refine Below.drew ?_))) bB
      clear bB
      have HP := Lib.hid (pCh_ref hkl h1)
      have i1 := nrR_rng h1
      clear h1
      by_cases g2 : e1 < 0
      · have HE := Lib.hid (crS_no HS.out hlt (HP.out.1 (.inl g2)))
        go_wp2_with fail
        go_ret2
        exact ⟨.inl ⟨HE.out, rfl⟩, (by have hs_ := hB.size; repeat (first | with_reducible exact hB | with_reducible (refine Below.setCell ?_ (by simp <;> omega) _) | with_reducible (refine Below.alloc ?_ (by first | exact hs_ | (simp <;> omega)) _) | with_reducible (refine Below.drew ?_)))⟩
      by_cases g3 : 410 < q
      · have HE := Lib.hid (crS_no HS.out hlt (HP.out.1 (.inr g3)))
        have g3' : (410 : Int) < (q : Int) := by omega
        go_wp2_with fail
        go_ret2
        exact ⟨.inl ⟨HE.out, rfl⟩, (by have hs_ := hB.size; repeat (first | with_reducible exact hB | with_reducible (refine Below.setCell ?_ (by simp <;> omega) _) | with_reducible (refine Below.alloc ?_ (by first | exact hs_ | (simp <;> omega)) _) | with_reducible (refine Below.drew ?_)))⟩
      have g3' : ¬ (410 : Int) < (q : Int) := by omega
      obtain ⟨u0, rfl⟩ : ∃ u0 : Nat, e1 = (u0 : Int) := ⟨e1.toNat, by omega⟩
      have hp0 := HP.out.2 (by omega) (by omega)
      simp only [Int.toNat_natCast] at hp0
      have HP0 := Lib.hid hp0
      have hwq : IntKind.i64.wrap (q : Int) = (q : Int) := by rw [IntKind.wrap_i64]; omega
      have hu0 : u0 ≤ l.length := by omega
      clear HP hp0 g2 i1
      go_wp2_with fail
      have HI := Lib.hid hI
      have HO1 := Lib.hid o1
      have HB1 := Lib.hid hB
      clear hI o1 hB
      go_loopw [5, 9, 10] (fun a v i wr => ∃ (t u : Nat) (A3 : Option Addr) (c3 : Nat) (li : List Nat), t ≤ q ∧ i = .int .i64 (t : Int) ∧ a = .int .i64 (u : Int) ∧ v = .slice A3 t c3 ∧ wr.ownsRow w1.heap.size 51 1 (.slice A3 t c3) t (li.map vU) ∧ li.length = t ∧ (∀ x ∈ li, x < 18446744073709551616) ∧ (pCh l k = (pAd l (q - t) u).map (fun p => (li ++ p.1, p.2)) ∧ u ≤ l.length) ∧ Below w1.heap.size w1 wr) (fun _ _ i _ => q - (intOf i).toNat)
      case atStart => exact ⟨0, u0, none, 0, [], by omega, rfl, rfl, rfl, World.ownsRow_nil _ _ _ _, rfl, by simp, ⟨HP0.out, hu0⟩, Below.refl _ _⟩
      case round =>
        clear HP0 hu0
        obtain ⟨t, u, A3, c3, li, ht, rfl, rfl, rfl, o3, hl3, hx3, hA, hB⟩ := hrel
        have HA := Lib.hid hA.1
        have hul := hA.2
        have HL3 := Lib.hid hl3
        have HX3 := Lib.hid hx3
        clear hA hl3 hx3
        by_cases htk : t < q
        · go_wp2_with fail
          refine (number27_any A n c l (u : Int) _ (HR.out.mv (HB1.out.trans (Below.mono hB HB1.out.size))) hn (by have := HL.out; omega)).mono ?_
          rintro e w4 ⟨x, e2, rfl, h2, bB⟩
          replace o3 := own_call (by repeat (first | with_reducible exact o3 | (with_reducible apply own_set_; case hne => first | skip) | with_reducible (apply own_alloc_) | with_reducible (apply own_drew_))) bB
          replace hB := Below.via (w := w1) (by have hs_ := hB.size; repeat (first | with_reducible exact hB | with_reducible (refine Below.setCell ?_ (by simp <;> omega) _) | with_reducible (refine Below.alloc ?_ (by first | exact hs_ | (simp <;> omega)) _) | with_reducible (refine Below.drew ?_))) bB
          clear bB
          have HP := Lib.hid (pAd_ref HA.out htk hul h2)
          have i2 := nrR_rng h2
          clear h2
          go_wp2_with fail
          refine (eight27_any x _ i2.1).mono ?_
          rintro e wq ⟨z, rfl, hz, hze, rfl⟩
          have HZ := Lib.hid hze
          clear hze
          by_cases g4 : e2 < 0
          · have HE := Lib.hid (crS_no HS.out hlt (HP.out.1 (.inl g4)))
            go_wp2_with fail
            go_ret2
            exact ⟨.inl ⟨HE.out, rfl⟩, (HB1.out.trans (Below.mono hB HB1.out.size))⟩
          by_cases g5 : ¬ x < 2305843009213693952
          · have HE := Lib.hid (crS_no HS.out hlt (HP.out.1 (.inr g5)))
            rw [decide_eq_false g5]
            go_wp2_with fail
            go_ret2
            exact ⟨.inl ⟨HE.out, rfl⟩, (HB1.out.trans (Below.mono hB HB1.out.size))⟩
          rw [decide_eq_true (Decidable.not_not.1 g5)]
          have g6 := Decidable.not_not.1 g5
          obtain ⟨u2, rfl⟩ : ∃ u2 : Nat, e2 = (u2 : Int) := ⟨e2.toNat, by omega⟩
          have hp2 := HP.out.2 (by omega) g6
          have e3 := HZ.out g6
          rw [← e3] at hp2
          simp only [Int.toNat_natCast] at hp2
          have HST := Lib.hid (And.intro hp2 (show u2 ≤ l.length by omega))
          clear HP HZ hp2 e3 g5 HA
          go_wp2_with (at_builtin; refine wpList_app rfl (.tmp 66) (.tmp 68) _ rfl slU64 w1.heap.size (.slice A3 t c3) t _ (by rfl) (by repeat (first | with_reducible exact o3 | (with_reducible apply own_set_; case hne => first | skip) | with_reducible (apply own_alloc_) | with_reducible (apply own_drew_))) _ _ 1 1 [.int .u64 (z : Int)] rfl (reads_blk (t := 51) (cs := #[.int .u64 (z : Int)]) (Blk.newAt (by simp) _ _) 1 1 rfl) (by simp [Value.oneCell']) (by omega) (by have hs_ := hB.size; simp <;> omega) ?_; intro A5 c5 w5 o5 hg5 b5 hc5; replace hB : Below w1.heap.size w1 w5 := Below.trans (by have hs_ := hB.size; repeat (first | with_reducible exact hB | with_reducible (refine Below.setCell ?_ (by simp <;> omega) _) | with_reducible (refine Below.alloc ?_ (by first | exact hs_ | (simp <;> omega)) _) | with_reducible (refine Below.drew ?_))) b5)
          go_roundw
          case rel => exact ⟨t + 1, u2, A5, c5, li ++ [z], by omega, by go_num, rfl, rfl, by simpa [vU] using o5, by simp [HL3.out], by intro y hy; rcases List.mem_append.1 hy with h | h; exact HX3.out y h; simp at h; subst h; exact hz, HST.out, hB⟩
          case measure => simp [intOf]; omega
        · obtain rfl : t = q := by omega
          have hpc : pCh l k = some (li, u) := by
            have h := HA.out
            rw [Nat.sub_self] at h
            rw [h]; simp [pAd]
          have HST := Lib.hid (crS_step HS.out hlt hpc hul)
          clear hpc
          have hI := HI.out.call hB
          have o1 := own_call HO1.out hB
          have o3l := own_low o3 (show w.heap.size ≤ w1.heap.size from HB1.out.size)
          replace hI := (Inn.snoc hI o3l HL3.out HX3.out).al (.cells #[.slice A3 t c3] 63)
          replace hB := (HB1.out.trans (Below.mono hB HB1.out.size))
          clear HS HA HB1 HO1 HI o3 o3l
          go_wp2_with (at_builtin; refine wpList_app rfl (.tmp 70) (.tmp 72) _ rfl slUS w.heap.size (.slice A1 j c1) j vs (by rfl) (own_alloc_ o1 _) _ _ 1 1 [.slice A3 t c3] rfl (reads_blk (t := 63) (cs := #[.slice A3 t c3]) (Blk.newAt (by simp) _ _) 1 1 rfl) (by simp [Value.oneCell']) (by omega) (by have hs_ := hB.size; simp <;> omega) ?_; intro A6 c6 w6 o6 hg6 b6 hc6; replace hI : Inn w6 w.heap.size (vs ++ [.slice A3 t c3]) (LL ++ [li]) := hI.map (fun v n xs ho => own_growNe ho (own_alloc_ o1 (.cells #[.slice A3 t c3] 63)) (by decide) hg6); replace hB : Below w.heap.size w w6 := Below.trans (by have hs_ := hB.size; repeat (first | with_reducible exact hB | with_reducible (refine Below.setCell ?_ (by simp <;> omega) _) | with_reducible (refine Below.alloc ?_ (by first | exact hs_ | (simp <;> omega)) _) | with_reducible (refine Below.drew ?_))) b6)
          go_roundw
          case rel => exact ⟨j + 1, u, A6, c6, LL ++ [li], _, by omega, by go_num, rfl, rfl, o6, hI, by simp [HLL.out], HST.out, hB⟩
          case measure => simp [intOf]; omega
    · obtain rfl : j = m := by omega
      have HE0 := Lib.hid (crS_end HS.out)
      clear HS
      by_cases g2 : k = n
      rotate_left
      · have HE := Lib.hid (show rch l = none from by rw [HE0.out, if_neg (fun h => g2 (by have := HL.out; omega))])
        have g3 : ((k : Int) != (n : Int)) = true := by rw [bne_iff_ne]; omega
        go_wp2_with fail
        go_ret2
        exact ⟨.inl ⟨HE.out, rfl⟩, (by have hs_ := hB.size; repeat (first | with_reducible exact hB | with_reducible (refine Below.setCell ?_ (by simp <;> omega) _) | with_reducible (refine Below.alloc ?_ (by first | exact hs_ | (simp <;> omega)) _) | with_reducible (refine Below.drew ?_)))⟩
      subst g2
      have HT := Lib.hid (show RdC wr A1 j LL from Inn.rdC hI o1 HLL.out)
      go_wp2_with fail
      refine (chains27_any A1 j c1 LL _ HT.out).mono ?_
      rintro e w8 ⟨rfl, rfl⟩
      cases hh : csB LL
      · have HE := Lib.hid (show rch l = none from by rw [HE0.out, if_neg (by rw [hh]; simp)])
        clear hh
        go_wp2_with fail
        go_ret2
        exact ⟨.inl ⟨HE.out, rfl⟩, (by have hs_ := hB.size; repeat (first | with_reducible exact hB | with_reducible (refine Below.setCell ?_ (by simp <;> omega) _) | with_reducible (refine Below.alloc ?_ (by first | exact hs_ | (simp <;> omega)) _) | with_reducible (refine Below.drew ?_)))⟩
      · have HE := Lib.hid (show rch l = some LL from by rw [HE0.out, if_pos ⟨HL.out.symm, hh⟩])
        clear hh
        go_wp2_with fail
        go_ret2
        exact ⟨.inr ⟨LL, A1, c1, HE.out, by rw [HLL.out]; rfl, by rw [HLL.out]; exact HT.out⟩, hB⟩

end Go.Proofs.Ytljpggebpfpelaa
