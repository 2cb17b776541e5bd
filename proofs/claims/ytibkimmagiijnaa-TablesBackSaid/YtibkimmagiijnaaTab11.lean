/- The contracts of the reference's Read and Decode. Each states its conditions. -/
import Derived.Test.YtibkimmagiijnaaTab10
namespace Go.Proofs.Ytibkimmagiijnaa
open Go.RowKit Wire
set_option linter.unusedVariables false

/-- The reference's form of the runs. -/
def smR : Nat → List (Nat × Nat) → List (Int × Nat)
  | _, [] => []
  | s, p :: r => (((min (s + min p.1 1000) 1000 : Nat) : Int), p.2) :: smR (min (s + min p.1 1000) 1000) r
theorem smR_key (K : Nat) (hK : K ≤ 200) (r : List (Nat × Nat)) : ∀ (s v : Nat), s ≤ 200 → frB ((s : Int), v) (smR s r) (K : Int) = frB ((s : Int), v) (smP s r) (K : Int) ∧ (frB ((s : Int), v) (smP s r) (K : Int) = true → smR s r = smP s r) := by
  induction r with
  | nil => intro s v _; exact ⟨rfl, fun _ => rfl⟩
  | cons p r ih =>
    intro s v hs
    by_cases hp : p.1 < 200
    · have e1 : min (s + min p.1 1000) 1000 = s + p.1 := by omega
      have e2 : s + min p.1 200 = s + p.1 := by omega
      rw [smR, smP, e1, e2]
      by_cases hk : s + p.1 < K
      · obtain ⟨h1, h2⟩ := ih (s + p.1) p.2 (by omega)
        refine ⟨by rw [frB, frB, h1], fun h => ?_⟩
        rw [frB] at h
        simp only [Bool.and_eq_true] at h
        rw [h2 h.2]
      · have e3 : decide (((s + p.1 : Nat) : Int) < (K : Int)) = false := by simp; omega
        refine ⟨by rw [frB, frB, e3]; rfl, fun h => ?_⟩
        rw [frB, e3] at h
        simp at h
    · have e1 : decide (((min (s + min p.1 1000) 1000 : Nat) : Int) < (K : Int)) = false := by rw [decide_eq_false_iff_not]; omega
      have e2 : decide (((s + min p.1 200 : Nat) : Int) < (K : Int)) = false := by rw [decide_eq_false_iff_not]; omega
      rw [smR, smP]
      refine ⟨by rw [frB, frB, e1, e2]; rfl, fun h => ?_⟩
      rw [frB, e2] at h
      simp at h
theorem smR_fn (K : Nat) (hK : K ≤ 200) (r : List (Nat × Nat)) : fnB (smR 0 r) (K : Int) = fnB (smP 0 r) (K : Int) ∧ (fnB (smP 0 r) (K : Int) = true → smR 0 r = smP 0 r) := by
  rcases r with _ | ⟨p, r⟩
  · exact ⟨rfl, fun _ => rfl⟩
  · rw [smR, smP, fnB_ref, fnB_ref]
    by_cases h0 : p.1 = 0
    · have e1 : min (0 + min p.1 1000) 1000 = 0 := by omega
      have e2 : 0 + min p.1 200 = 0 := by omega
      rw [e1, e2]
      obtain ⟨h1, h2⟩ := smR_key K hK r 0 p.2 (by omega)
      refine ⟨by rw [show (((0 : Nat) : Int), p.2) = ((((0 : Nat) : Int)), p.2) from rfl, h1], fun h => ?_⟩
      simp only [Bool.and_eq_true] at h
      rw [h2 h.2.2]
    · have e1 : (((min (0 + min p.1 1000) 1000 : Nat) : Int) == 0) = false := by rw [beq_eq_false_iff_ne]; omega
      have e2 : (((0 + min p.1 200 : Nat) : Int) == 0) = false := by rw [beq_eq_false_iff_ne]; omega
      refine ⟨by simp only [e1, e2, Bool.false_and], fun h => ?_⟩
      simp only [e2, Bool.false_and] at h
      cases h
/-- Where the reference's runs end. -/
def enR : Nat → List (Nat × Nat) → Nat
  | s, [] => s
  | s, p :: r => enR (min (s + min p.1 1000) 1000) r
theorem smR_snoc (s : Nat) (x : List (Nat × Nat)) (p : Nat × Nat) : smR s (x ++ [p]) = smR s x ++ [(((min (enR s x + min p.1 1000) 1000 : Nat) : Int), p.2)] := by
  induction x generalizing s with
  | nil => rfl
  | cons q x ih => rw [List.cons_append, smR, ih, smR, enR]; rfl
theorem enR_snoc (s : Nat) (x : List (Nat × Nat)) (p : Nat × Nat) : enR s (x ++ [p]) = min (enR s x + min p.1 1000) 1000 := by
  induction x generalizing s with
  | nil => rfl
  | cons q x ih => rw [List.cons_append, enR, ih, enR]
theorem enR_le (s : Nat) (x : List (Nat × Nat)) (hs : s ≤ 1000) : enR s x ≤ 1000 := by
  induction x generalizing s with
  | nil => exact hs
  | cons q x ih => exact ih _ (by omega)
theorem smR_len (s : Nat) (x : List (Nat × Nat)) : (smR s x).length = x.length := by
  induction x generalizing s with
  | nil => rfl
  | cons q x ih => simp [smR, ih]
theorem smR_fit {r : List (Nat × Nat)} : ∀ {s : Nat}, (∀ p ∈ r, p.2 < 18446744073709551616) → ∀ q ∈ smR s r, fitR q := by
  induction r with
  | nil => intro s _ q hq; simp [smR] at hq
  | cons p r ih =>
    intro s hv q hq
    rw [smR] at hq
    rcases List.mem_cons.1 hq with rfl | hq
    · exact ⟨⟨by show (-9223372036854775808 : Int) ≤ ((min (s + min p.1 1000) 1000 : Nat) : Int); omega, by show ((min (s + min p.1 1000) 1000 : Nat) : Int) ≤ 9223372036854775807; omega⟩, hv p (by simp)⟩
    · exact ih (fun x hx => hv x (by simp [hx])) q hq

set_option maxRecDepth 100000 in
set_option maxHeartbeats 8000000 in
theorem reRead8_any (A : Option Addr) (n c : Nat) (l : List UInt8) (p K : Nat) (w : World) (hr : Rb w A n l) (hc : n ≤ c ∧ c ≤ 9223372036854775807) (hn : n ≤ 200000) (hp : p ≤ n) (hK : 1 ≤ K ∧ K ≤ 200) :
    Calls Try.prog 41 #[cur A n c (p : Int), .int .i64 (K : Int)] w fun e w' => DcP w A n c l (p : Int) (K : Int) e w' := by
  have HL := Lib.hid hr.len8
  have HR := Lib.hid hr
  have hB : Below w.heap.size w ((w.alloc (.cells #[.slice A n c, .int .i64 (p : Int)] 49)).alloc (.cells #[.slice none 0 0, .int .i64 0] 49)) := Below.alloc (Below.alloc (Below.refl w.heap.size w) (Nat.le_refl _) (.cells #[.slice A n c, .int .i64 (p : Int)] 49)) (by simp) (.cells #[.slice none 0 0, .int .i64 0] 49)
  have hc0 := (Blk.new w 49 #[.slice A n c, .int .i64 (p : Int)]).alloc (.cells #[.slice none 0 0, .int .i64 0] 49)
  have hz := Blk.new (w.alloc (.cells #[.slice A n c, .int .i64 (p : Int)] 49)) 49 #[.slice none 0 0, .int .i64 0]
  rw [alloc_size] at hz
  clear hr
  have hkn : n ≤ 9223372036854775000 := by omega
  have HCK := Lib.hid (show ckB l.length (p : Int) = true from by rw [HL.out]; simp only [ckB, Bool.and_eq_true, decide_eq_true_eq]; omega)
  have HU := Lib.hid (fun W (h : Rb W A n l) => read_any A n c l p W h hkn hp)
  have hw0 : IntKind.u64.wrap (K : Int) = (K : Int) := by rw [IntKind.wrap_u64]; omega
  by_cases hx : (uvR l (p : Int)).1 = 0
  rotate_left
  · obtain ⟨x, hxx⟩ : ∃ x, (uvR l (p : Int)).1 = x := ⟨_, rfl⟩
    rw [hxx] at hx
    have hue : uvE l (p : Int) K = x := by rw [uv64_bad HCK.out (by rw [hxx]; exact hx), hxx]
    have HE := Lib.hid (show dcE l (p : Int) (K : Int) = x from by unfold dcE; rw [if_pos HCK.out, if_pos (by omega), Int.toNat_natCast, if_pos (by rw [hue]; exact hx), hue])
    have HV := Lib.hid (dc_bad A n c HE.out hx)
    have HX := Lib.hid (show rdE l (p : Int) = x from hxx)
    have HUV := Lib.hid (show rdC A n c l (p : Int) = cur none 0 0 0 ∧ rdN l (p : Int) = 0 from ⟨by rw [rdC, HX.out, if_neg hx], by rw [rdN, HX.out, if_neg hx]⟩)
    have d1 : (x == 0) = false := by rw [beq_eq_false_iff_ne]; exact hx
    have d2 : (x != 0) = true := by rw [bne_iff_ne]; exact hx
    clear hxx hue hx
    go_enter Try.func41, Try.ntmps41
    have z1 : ((w.alloc (.cells #[.slice A n c, .int .i64 (p : Int)] 49)).alloc (.cells #[.slice none 0 0, .int .i64 0] 49)).cell? ⟨w.heap.size, 0, none⟩ = some (.slice A n c) := (hc0.cell 0).trans rfl
    have z2 : ((w.alloc (.cells #[.slice A n c, .int .i64 (p : Int)] 49)).alloc (.cells #[.slice none 0 0, .int .i64 0] 49)).cell? ⟨w.heap.size, 1, none⟩ = some (.int .i64 (p : Int)) := (hc0.cell 1).trans rfl
    have z3 : ((w.alloc (.cells #[.slice A n c, .int .i64 (p : Int)] 49)).alloc (.cells #[.slice none 0 0, .int .i64 0] 49)).cell? ⟨(w.heap.size + 1), 0, none⟩ = some (.slice none 0 0) := (hz.cell 0).trans rfl
    have z4 : ((w.alloc (.cells #[.slice A n c, .int .i64 (p : Int)] 49)).alloc (.cells #[.slice none 0 0, .int .i64 0] 49)).cell? ⟨(w.heap.size + 1), 1, none⟩ = some (.int .i64 0) := (hz.cell 1).trans rfl
    go_wp2_with fail
    clear z1 z2 z3 z4
    refine (HU.out _ (HR.out.mv hB)).mono ?_
    rintro e w3 ⟨rfl, b⟩
    rw [HUV.out.1, HUV.out.2, HX.out]
    replace hc0 := hc0.below b hc0.lt
    replace hz := hz.below b hz.lt
    replace hB := hB.trans (b.mono hB.size)
    clear b
    have z5 : w3.cell? ⟨(w.heap.size + 1), 0, none⟩ = some (.slice none 0 0) := (hz.cell 0).trans rfl
    have z6 := hz.frozen 0
    have z7 : w3.cell? ⟨(w.heap.size + 1), 1, none⟩ = some (.int .i64 0) := (hz.cell 1).trans rfl
    have z8 := hz.frozen 1
    have y0 : (w3.alloc (.cells #[.slice none 0 0, .int .i64 0] 49)).cell? ⟨(w.heap.size + 1), 0, none⟩ = some (.slice none 0 0) := ((hz.alloc (.cells #[.slice none 0 0, .int .i64 0] 49)).cell 0).trans rfl
    have yf0 := (hz.alloc (.cells #[.slice none 0 0, .int .i64 0] 49)).frozen 0
    have y1 : (w3.alloc (.cells #[.slice none 0 0, .int .i64 0] 49)).cell? ⟨(w.heap.size + 1), 1, none⟩ = some (.int .i64 0) := ((hz.alloc (.cells #[.slice none 0 0, .int .i64 0] 49)).cell 1).trans rfl
    have yf1 := (hz.alloc (.cells #[.slice none 0 0, .int .i64 0] 49)).frozen 1
    go_wp2_with fail
    refine ret_c2 rfl curT8 rfl (by repeat (first | with_reducible exact hz | with_reducible (apply Blk.set_) | with_reducible (apply Blk.far; case hp => (simp <;> omega)) | with_reducible (apply Blk.alloc) | with_reducible (apply Blk.drew))) (by rfl) ?_
    unfold DcP
    exact ⟨none, 0, by rw [HV.out.1, HV.out.2, HE.out]; rfl, by rw [HV.out.1]; exact World.ownsRow_nil _ _ _ _, (by have hs_ := hB.size; repeat (first | with_reducible exact hB | with_reducible (refine Below.setCell ?_ (by simp <;> omega) _) | with_reducible (refine Below.alloc ?_ (by first | exact hs_ | (simp <;> omega)) _) | with_reducible (refine Below.drew ?_)))⟩
  have hle := uvR_le hx
  obtain ⟨N, hN⟩ : ∃ N, (uvR l (p : Int)).2.1 = N := ⟨_, rfl⟩
  obtain ⟨u, hu⟩ : ∃ u, (uvR l (p : Int)).2.2 = u := ⟨_, rfl⟩
  obtain ⟨b0, hb⟩ : ∃ b0, p + u = b0 := ⟨_, rfl⟩
  have hbn : b0 ≤ n := by have := hle.2.2.1; rw [hu, Int.toNat_natCast, HL.out] at this; omega
  have HX := Lib.hid (show rdE l (p : Int) = 0 from hx)
  have HUV := Lib.hid (show rdC A n c l (p : Int) = cur A n c (b0 : Int) ∧ rdN l (p : Int) = N from ⟨by rw [rdC, if_pos HX.out, hu, show (p : Int) + (u : Int) = (b0 : Int) from by omega], by rw [rdN, if_pos HX.out, hN]⟩)
  have hN64 : N < 18446744073709551616 := by have := hle.1; rw [hN] at this; exact this
  by_cases hNK : N ≤ K
  rotate_left
  · have HE := Lib.hid (show dcE l (p : Int) (K : Int) = 4 from by
      have hue : uvE l (p : Int) K = 4 := by unfold uvE; rw [if_pos HCK.out, if_neg (by simp [hx]), hN, if_pos (by omega)]
      unfold dcE; rw [if_pos HCK.out, if_pos (by omega), Int.toNat_natCast, if_pos (by rw [hue]; decide), hue])
    have HV := Lib.hid (dc_bad A n c HE.out (by decide))
    have d3 : decide ((N : Int) > (K : Int)) = true := by rw [decide_eq_true_eq]; omega
    clear hle hN hu hb hx
    go_enter Try.func41, Try.ntmps41
    have z1 : ((w.alloc (.cells #[.slice A n c, .int .i64 (p : Int)] 49)).alloc (.cells #[.slice none 0 0, .int .i64 0] 49)).cell? ⟨w.heap.size, 0, none⟩ = some (.slice A n c) := (hc0.cell 0).trans rfl
    have z2 : ((w.alloc (.cells #[.slice A n c, .int .i64 (p : Int)] 49)).alloc (.cells #[.slice none 0 0, .int .i64 0] 49)).cell? ⟨w.heap.size, 1, none⟩ = some (.int .i64 (p : Int)) := (hc0.cell 1).trans rfl
    have z3 : ((w.alloc (.cells #[.slice A n c, .int .i64 (p : Int)] 49)).alloc (.cells #[.slice none 0 0, .int .i64 0] 49)).cell? ⟨(w.heap.size + 1), 0, none⟩ = some (.slice none 0 0) := (hz.cell 0).trans rfl
    have z4 : ((w.alloc (.cells #[.slice A n c, .int .i64 (p : Int)] 49)).alloc (.cells #[.slice none 0 0, .int .i64 0] 49)).cell? ⟨(w.heap.size + 1), 1, none⟩ = some (.int .i64 0) := (hz.cell 1).trans rfl
    go_wp2_with fail
    clear z1 z2 z3 z4
    refine (HU.out _ (HR.out.mv hB)).mono ?_
    rintro e w3 ⟨rfl, b⟩
    rw [HUV.out.1, HUV.out.2, HX.out]
    replace hc0 := hc0.below b hc0.lt
    replace hz := hz.below b hz.lt
    replace hB := hB.trans (b.mono hB.size)
    clear b
    have z5 : w3.cell? ⟨(w.heap.size + 1), 0, none⟩ = some (.slice none 0 0) := (hz.cell 0).trans rfl
    have z6 := hz.frozen 0
    have z7 : w3.cell? ⟨(w.heap.size + 1), 1, none⟩ = some (.int .i64 0) := (hz.cell 1).trans rfl
    have z8 := hz.frozen 1
    have y0 : (w3.alloc (.cells #[.slice A n c, .int .i64 (b0 : Int)] 49)).cell? ⟨(w.heap.size + 1), 0, none⟩ = some (.slice none 0 0) := ((hz.alloc (.cells #[.slice A n c, .int .i64 (b0 : Int)] 49)).cell 0).trans rfl
    have yf0 := (hz.alloc (.cells #[.slice A n c, .int .i64 (b0 : Int)] 49)).frozen 0
    have y1 : (w3.alloc (.cells #[.slice A n c, .int .i64 (b0 : Int)] 49)).cell? ⟨(w.heap.size + 1), 1, none⟩ = some (.int .i64 0) := ((hz.alloc (.cells #[.slice A n c, .int .i64 (b0 : Int)] 49)).cell 1).trans rfl
    have yf1 := (hz.alloc (.cells #[.slice A n c, .int .i64 (b0 : Int)] 49)).frozen 1
    go_wp2_with fail
    refine ret_c2 rfl curT8 rfl (by repeat (first | with_reducible exact hz | with_reducible (apply Blk.set_) | with_reducible (apply Blk.far; case hp => (simp <;> omega)) | with_reducible (apply Blk.alloc) | with_reducible (apply Blk.drew))) (by rfl) ?_
    unfold DcP
    exact ⟨none, 0, by rw [HV.out.1, HV.out.2, HE.out]; rfl, by rw [HV.out.1]; exact World.ownsRow_nil _ _ _ _, (by have hs_ := hB.size; repeat (first | with_reducible exact hB | with_reducible (refine Below.setCell ?_ (by simp <;> omega) _) | with_reducible (refine Below.alloc ?_ (by first | exact hs_ | (simp <;> omega)) _) | with_reducible (refine Below.drew ?_)))⟩
  have d3n : ¬ K < N := by omega
  have d3 : decide ((N : Int) > (K : Int)) = false := by rw [decide_eq_false_iff_not]; omega
  have HUE := Lib.hid (show uvE l (p : Int) K = 0 from by
    unfold uvE; rw [if_pos HCK.out, if_neg (by simp [hx]), hN, if_neg (by omega)])
  have HDW := Lib.hid (show dcW l (p : Int) = rwR l N b0 from by rw [dcW, hN, hu, Int.toNat_natCast, hb])
  have HDE := Lib.hid (show ∀ x, (rwR l N b0).1 = x → x ≠ 0 → dcE l (p : Int) (K : Int) = x from fun x h1 h2 => by
    unfold dcE
    rw [if_pos HCK.out, if_pos (by omega), Int.toNat_natCast, if_neg (by simp [HUE.out]), HDW.out, h1, if_pos h2])
  have HDF := Lib.hid (show (rwR l N b0).1 = 0 → dcE l (p : Int) (K : Int) = if fnB (smP 0 (rwR l N b0).2.1) (K : Int) then 0 else 12 from fun h1 => by
    unfold dcE
    rw [if_pos HCK.out, if_pos (by omega), Int.toNat_natCast, if_neg (by simp [HUE.out]), HDW.out, if_neg (by simp [h1])])
  have HCQ := Lib.hid (show ∀ q : Nat, q ≤ n → ckB l.length (q : Int) = true from fun q hq => by rw [HL.out]; simp only [ckB, Bool.and_eq_true, decide_eq_true_eq]; omega)
  have HU6 := Lib.hid (fun (q : Nat) (hq : q ≤ n) W (h : Rb W A n l) => read_any A n c l q W h hkn hq)
  clear hle hN hu hb hx
  go_enter Try.func41, Try.ntmps41
  have z1 : ((w.alloc (.cells #[.slice A n c, .int .i64 (p : Int)] 49)).alloc (.cells #[.slice none 0 0, .int .i64 0] 49)).cell? ⟨w.heap.size, 0, none⟩ = some (.slice A n c) := (hc0.cell 0).trans rfl
  have z2 : ((w.alloc (.cells #[.slice A n c, .int .i64 (p : Int)] 49)).alloc (.cells #[.slice none 0 0, .int .i64 0] 49)).cell? ⟨w.heap.size, 1, none⟩ = some (.int .i64 (p : Int)) := (hc0.cell 1).trans rfl
  have z3 : ((w.alloc (.cells #[.slice A n c, .int .i64 (p : Int)] 49)).alloc (.cells #[.slice none 0 0, .int .i64 0] 49)).cell? ⟨(w.heap.size + 1), 0, none⟩ = some (.slice none 0 0) := (hz.cell 0).trans rfl
  have z4 : ((w.alloc (.cells #[.slice A n c, .int .i64 (p : Int)] 49)).alloc (.cells #[.slice none 0 0, .int .i64 0] 49)).cell? ⟨(w.heap.size + 1), 1, none⟩ = some (.int .i64 0) := (hz.cell 1).trans rfl
  go_wp2_with fail
  clear z1 z2 z3 z4
  refine (HU.out _ (HR.out.mv hB)).mono ?_
  rintro e w3 ⟨rfl, b⟩
  rw [HUV.out.1, HUV.out.2, HX.out]
  replace hc0 := hc0.below b hc0.lt
  replace hz := hz.below b hz.lt
  replace hB := hB.trans (b.mono hB.size)
  clear b
  have hpn : w.heap.size + 1 < w3.heap.size := hz.lt
  have b := Ext.al w3 (.cells #[.slice A n c, .int .i64 (b0 : Int)] 49)
  have hn := Blk.new w3 49 #[.slice A n c, .int .i64 (b0 : Int)]
  have o_hc0_hn := hc0.lt
  have o_hz_hn := hz.lt
  replace hc0 := hc0.below b hc0.lt
  replace hz := hz.below b hz.lt
  replace hB := hB.trans (b.mono hB.size)
  clear b
  go_wp2_with fail
  generalize w3.alloc (.cells #[.slice A n c, .int .i64 (b0 : Int)] 49) = w4 at *
  generalize w3.heap.size = pn at *
  go_loopw [10, 11, 12] (fun v s i wr => ∃ (j q : Nat) (done : List (Nat × Nat)) (A1 : Option Addr) (c1 : Nat), j ≤ N ∧ i = .int .u64 (j : Int) ∧ s = .int .u64 ((enR 0 done : Nat) : Int) ∧ v = .slice A1 j c1 ∧ done.length = j ∧ q ≤ n ∧ (rwR l N b0).1 = (rwR l (N - j) q).1 ∧ ((rwR l N b0).1 = 0 → (rwR l N b0).2.1 = done ++ (rwR l (N - j) q).2.1 ∧ (rwR l N b0).2.2 = (rwR l (N - j) q).2.2) ∧ (∀ p ∈ done, p.2 < 18446744073709551616) ∧
      Blk wr w.heap.size 49 #[.slice A n c, .int .i64 (p : Int)] ∧ Blk wr (w.heap.size + 1) 49 #[.slice none 0 0, .int .i64 0] ∧ Blk wr pn 49 #[.slice A n c, .int .i64 (q : Int)] ∧ wr.ownsRow w.heap.size 61 2 (.slice A1 j c1) j (rnC (smR 0 done)) ∧ Below w.heap.size w wr) (fun _ _ i _ => N - (intOf i).toNat)
  case atStart => exact ⟨0, b0, [], none, 0, by omega, rfl, rfl, rfl, rfl, hbn, by simp, fun _ => by simp, by simp, hc0, hz, hn, World.ownsRow_nil _ _ _ _, hB⟩
  case round =>
    obtain ⟨j, q, done, A1, c1, hj, rfl, rfl, rfl, hdl, hqn, hr1, hr2, hdv, hc0, hz, hn, hown, hB⟩ := hrel
    have HD := Lib.hid hdl
    have HR1 := Lib.hid hr1
    have HR2 := Lib.hid hr2
    have HDV := Lib.hid hdv
    clear hdl hr1 hr2 hdv
    have hen := enR_le 0 done (by omega)
    by_cases hlt : j < N
    rotate_left
    · obtain rfl : j = N := by omega
      have HDD := Lib.hid (show (rwR l j b0).1 = 0 ∧ (rwR l j b0).2.1 = done ∧ (rwR l j b0).2.2 = q from by
        have h1 := HR1.out
        rw [Nat.sub_self] at h1
        have h2 := HR2.out h1
        rw [Nat.sub_self] at h2
        exact ⟨h1, by rw [h2.1]; simp [rwR], by rw [h2.2]; rfl⟩)
      have HSL := Lib.hid (show (smR 0 done).length = j from by rw [smR_len, HD.out])
      have HSF := Lib.hid (smR_fn K (by omega) done)
      have N1 := own_rdN hown (smR_fit HDV.out)
      have hcap := own_cap hown
      unfold maxLen at hcap
      have z1 : wr.cell? ⟨w.heap.size, 0, none⟩ = some (.slice A n c) := (hc0.cell 0).trans rfl
      have z2 : wr.cell? ⟨w.heap.size, 1, none⟩ = some (.int .i64 (p : Int)) := (hc0.cell 1).trans rfl
      have z3 : wr.cell? ⟨(w.heap.size + 1), 0, none⟩ = some (.slice none 0 0) := (hz.cell 0).trans rfl
      have z4 : wr.cell? ⟨(w.heap.size + 1), 1, none⟩ = some (.int .i64 0) := (hz.cell 1).trans rfl
      have z5 : wr.cell? ⟨pn, 0, none⟩ = some (.slice A n c) := (hn.cell 0).trans rfl
      have z6 : wr.cell? ⟨pn, 1, none⟩ = some (.int .i64 (q : Int)) := (hn.cell 1).trans rfl
      go_wp2_with fail
      clear z1 z2 z3 z4 z5 z6
      refine (reFine_any A1 j c1 (smR 0 done) (K : Int) _ N1 hcap).mono ?_
      rintro e w6 ⟨rfl, b⟩
      replace hown := own_call hown b
      replace hc0 := hc0.below b hc0.lt
      replace hz := hz.below b hz.lt
      replace hn := hn.below b hn.lt
      replace hB := hB.trans (b.mono hB.size)
      clear b
      cases hf : fnB (smR 0 done) (K : Int)
      · have HE := Lib.hid (show dcE l (p : Int) (K : Int) = 12 from by rw [HDF.out HDD.out.1, HDD.out.2.1, ← HSF.out.1, hf]; rfl)
        have HV := Lib.hid (dc_bad A n c HE.out (by decide))
        clear hf hown
        have z1 : w6.cell? ⟨(w.heap.size + 1), 0, none⟩ = some (.slice none 0 0) := (hz.cell 0).trans rfl
        have z2 := hz.frozen 0
        have z3 : w6.cell? ⟨(w.heap.size + 1), 1, none⟩ = some (.int .i64 0) := (hz.cell 1).trans rfl
        have z4 := hz.frozen 1
        go_wp2_with fail
        refine ret_c2 rfl curT8 rfl (by repeat (first | with_reducible exact hz | with_reducible (apply Blk.set_) | with_reducible (apply Blk.far; case hp => (simp <;> omega)) | with_reducible (apply Blk.alloc) | with_reducible (apply Blk.drew))) (by rfl) ?_
        unfold DcP
        exact ⟨none, 0, by rw [HV.out.1, HV.out.2, HE.out]; rfl, by rw [HV.out.1]; exact World.ownsRow_nil _ _ _ _, (by have hs_ := hB.size; repeat (first | with_reducible exact hB | with_reducible (refine Below.setCell ?_ (by simp <;> omega) _) | with_reducible (refine Below.alloc ?_ (by first | exact hs_ | (simp <;> omega)) _) | with_reducible (refine Below.drew ?_)))⟩
      · have HE := Lib.hid (show dcE l (p : Int) (K : Int) = 0 from by rw [HDF.out HDD.out.1, HDD.out.2.1, ← HSF.out.1, hf]; rfl)
        have HSE := Lib.hid (HSF.out.2 (by rw [← HSF.out.1]; exact hf))
        have HVL := Lib.hid (show dcL l (p : Int) (K : Int) = smR 0 done from by rw [dcL, if_pos HE.out, HDW.out, HDD.out.2.1, HSE.out])
        have HVC := Lib.hid (show dcC A n c l (p : Int) (K : Int) = cur A n c (q : Int) from by rw [dcC, if_pos HE.out, HDW.out, HDD.out.2.2])
        clear hf
        have z1 : w6.cell? ⟨pn, 0, none⟩ = some (.slice A n c) := (hn.cell 0).trans rfl
        have z2 : w6.cell? ⟨pn, 1, none⟩ = some (.int .i64 (q : Int)) := (hn.cell 1).trans rfl
        have z3 : w6.cell? ⟨(w.heap.size + 1), 0, none⟩ = some (.slice none 0 0) := (hz.cell 0).trans rfl
        have z4 := hz.frozen 0
        have z5 : w6.cell? ⟨(w.heap.size + 1), 1, none⟩ = some (.int .i64 0) := (hz.cell 1).trans rfl
        have z6 := hz.frozen 1
        go_wp2_with fail
        refine ret_c2 rfl curT8 rfl (by repeat (first | with_reducible exact hz | with_reducible (apply Blk.set_) | with_reducible (apply Blk.far; case hp => (simp <;> omega)) | with_reducible (apply Blk.alloc) | with_reducible (apply Blk.drew))) (by rfl) ?_
        unfold DcP
        exact ⟨A1, c1, by rw [HVL.out, HVC.out, HE.out, HSL.out]; rfl, by rw [HVL.out, HSL.out]; exact own_setNe (own_setNe hown hz (by decide) 0 _) (hz.set_ 0 _) (by decide) 1 _, (by have hs_ := hB.size; repeat (first | with_reducible exact hB | with_reducible (refine Below.setCell ?_ (by simp <;> omega) _) | with_reducible (refine Below.alloc ?_ (by first | exact hs_ | (simp <;> omega)) _) | with_reducible (refine Below.drew ?_)))⟩
    have hM : N - j = (N - (j + 1)) + 1 := by omega
    have H1 := Lib.hid (HU6.out q hqn)
    by_cases hx1 : (uvR l (q : Int)).1 = 0
    rotate_left
    · obtain ⟨x, hxx⟩ : ∃ x, (uvR l (q : Int)).1 = x := ⟨_, rfl⟩
      have hx1' : x ≠ 0 := by rw [← hxx]; exact hx1
      have HE := Lib.hid (HDE.out x (by rw [HR1.out, hM, rw_bad1 hx1, hxx]) hx1')
      have HV := Lib.hid (dc_bad A n c HE.out hx1')
      have HX1 := Lib.hid (show rdE l (q : Int) = x from hxx)
      have HUV1 := Lib.hid (show rdC A n c l (q : Int) = cur none 0 0 0 ∧ rdN l (q : Int) = 0 from ⟨by rw [rdC, HX1.out, if_neg hx1'], by rw [rdN, HX1.out, if_neg hx1']⟩)
      have d1 : (x != 0) = true := by rw [bne_iff_ne]; exact hx1'
      clear hxx hx1 hx1' hM
      have z1 : wr.cell? ⟨pn, 0, none⟩ = some (.slice A n c) := (hn.cell 0).trans rfl
      have z2 : wr.cell? ⟨pn, 1, none⟩ = some (.int .i64 (q : Int)) := (hn.cell 1).trans rfl
      go_wp2_with fail
      clear z1 z2
      refine (H1.out _ (HR.out.mv hB)).mono ?_
      rintro e w6 ⟨rfl, b⟩
      rw [HUV1.out.1, HUV1.out.2, HX1.out]
      replace hown := own_call hown b
      replace hc0 := hc0.below b hc0.lt
      replace hz := hz.below b hz.lt
      replace hn := hn.below b hn.lt
      replace hB := hB.trans (b.mono hB.size)
      clear b
      clear hown
      have z3 : w6.cell? ⟨(w.heap.size + 1), 0, none⟩ = some (.slice none 0 0) := (hz.cell 0).trans rfl
      have z4 := hz.frozen 0
      have z5 : w6.cell? ⟨(w.heap.size + 1), 1, none⟩ = some (.int .i64 0) := (hz.cell 1).trans rfl
      have z6 := hz.frozen 1
      have y0 : (w6.alloc (.cells #[.slice none 0 0, .int .i64 0] 49)).cell? ⟨(w.heap.size + 1), 0, none⟩ = some (.slice none 0 0) := ((hz.alloc (.cells #[.slice none 0 0, .int .i64 0] 49)).cell 0).trans rfl
      have yf0 := (hz.alloc (.cells #[.slice none 0 0, .int .i64 0] 49)).frozen 0
      have y1 : (w6.alloc (.cells #[.slice none 0 0, .int .i64 0] 49)).cell? ⟨(w.heap.size + 1), 1, none⟩ = some (.int .i64 0) := ((hz.alloc (.cells #[.slice none 0 0, .int .i64 0] 49)).cell 1).trans rfl
      have yf1 := (hz.alloc (.cells #[.slice none 0 0, .int .i64 0] 49)).frozen 1
      go_wp2_with fail
      refine ret_c2 rfl curT8 rfl (by repeat (first | with_reducible exact hz | with_reducible (apply Blk.set_) | with_reducible (apply Blk.far; case hp => (simp <;> omega)) | with_reducible (apply Blk.alloc) | with_reducible (apply Blk.drew))) (by rfl) ?_
      unfold DcP
      exact ⟨none, 0, by rw [HV.out.1, HV.out.2, HE.out]; rfl, by rw [HV.out.1]; exact World.ownsRow_nil _ _ _ _, (by have hs_ := hB.size; repeat (first | with_reducible exact hB | with_reducible (refine Below.setCell ?_ (by simp <;> omega) _) | with_reducible (refine Below.alloc ?_ (by first | exact hs_ | (simp <;> omega)) _) | with_reducible (refine Below.drew ?_)))⟩
    obtain ⟨x, hxx⟩ : ∃ x, (uvR l (q : Int)).2.1 = x := ⟨_, rfl⟩
    obtain ⟨u1, huu⟩ : ∃ u1, (uvR l (q : Int)).2.2 = u1 := ⟨_, rfl⟩
    have hR : uvR l (q : Int) = (0, x, u1) := by rw [← hx1, ← hxx, ← huu]
    obtain ⟨_, hxl, hqu⟩ := uv64_ok A n c (HCQ.out q hqn) hR
    obtain ⟨q2, hq2⟩ : ∃ q2, q + u1 = q2 := ⟨_, rfl⟩
    have hq2n : q2 ≤ n := by rw [HL.out] at hqu; omega
    have hE1 : rdE l (q : Int) = 0 := hx1
    have HO1 := Lib.hid (show rdC A n c l (q : Int) = cur A n c (q2 : Int) ∧ rdN l (q : Int) = x ∧ rdE l (q : Int) = 0 from ⟨by rw [rdC, if_pos hE1, huu, show (q : Int) + (u1 : Int) = (q2 : Int) from by omega], by rw [rdN, if_pos hE1, hxx], hE1⟩)
    have H2 := Lib.hid (HU6.out q2 hq2n)
    have HX0 := Lib.hid hx1
    clear hx1 hxx hqu hE1
    by_cases hx2 : (uvR l (q2 : Int)).1 = 0
    rotate_left
    · obtain ⟨y, hyy⟩ : ∃ y, (uvR l (q2 : Int)).1 = y := ⟨_, rfl⟩
      have hx2' : y ≠ 0 := by rw [← hyy]; exact hx2
      have HE := Lib.hid (HDE.out y (by rw [HR1.out, hM, rw_bad2 HX0.out huu (by rw [hq2]; exact hx2), hq2, hyy]) hx2')
      have HV := Lib.hid (dc_bad A n c HE.out hx2')
      have HX2 := Lib.hid (show rdE l (q2 : Int) = y from hyy)
      have HUV2 := Lib.hid (show rdC A n c l (q2 : Int) = cur none 0 0 0 ∧ rdN l (q2 : Int) = 0 from ⟨by rw [rdC, HX2.out, if_neg hx2'], by rw [rdN, HX2.out, if_neg hx2']⟩)
      have d1 : (y != 0) = true := by rw [bne_iff_ne]; exact hx2'
      clear hyy hx2 hx2' hM huu hR hq2
      have z1 : wr.cell? ⟨pn, 0, none⟩ = some (.slice A n c) := (hn.cell 0).trans rfl
      have z2 : wr.cell? ⟨pn, 1, none⟩ = some (.int .i64 (q : Int)) := (hn.cell 1).trans rfl
      go_wp2_with fail
      clear z1 z2
      refine (H1.out _ (HR.out.mv hB)).mono ?_
      rintro e w6 ⟨rfl, b⟩
      rw [HO1.out.1, HO1.out.2.1, HO1.out.2.2]
      replace hown := own_call hown b
      replace hc0 := hc0.below b hc0.lt
      replace hz := hz.below b hz.lt
      replace hn := hn.below b hn.lt
      replace hB := hB.trans (b.mono hB.size)
      clear b
      have b := Ext.al w6 (.cells #[.slice A n c, .int .i64 (q2 : Int)] 49)
      have ha := Blk.new w6 49 #[.slice A n c, .int .i64 (q2 : Int)]
      have o_hc0_ha := hc0.lt
      have o_hz_ha := hz.lt
      have o_hn_ha := hn.lt
      replace hown := own_call hown b
      replace hc0 := hc0.below b hc0.lt
      replace hz := hz.below b hz.lt
      replace hn := hn.below b hn.lt
      replace hB := hB.trans (b.mono hB.size)
      clear b
      have z3 : (w6.alloc (.cells #[.slice A n c, .int .i64 (q2 : Int)] 49)).cell? ⟨w6.heap.size, 0, none⟩ = some (.slice A n c) := (ha.cell 0).trans rfl
      have z4 : (w6.alloc (.cells #[.slice A n c, .int .i64 (q2 : Int)] 49)).cell? ⟨w6.heap.size, 1, none⟩ = some (.int .i64 (q2 : Int)) := (ha.cell 1).trans rfl
      go_wp2_with fail
      clear z3 z4
      generalize w6.alloc (.cells #[.slice A n c, .int .i64 (q2 : Int)] 49) = w7 at *
      generalize w6.heap.size = pa at *
      refine (H2.out _ (HR.out.mv hB)).mono ?_
      rintro e w8 ⟨rfl, b⟩
      rw [HUV2.out.1, HUV2.out.2, HX2.out]
      replace hown := own_call hown b
      replace hc0 := hc0.below b hc0.lt
      replace hz := hz.below b hz.lt
      replace hn := hn.below b hn.lt
      replace ha := ha.below b ha.lt
      replace hB := hB.trans (b.mono hB.size)
      clear b
      clear hown
      have z5 : w8.cell? ⟨(w.heap.size + 1), 0, none⟩ = some (.slice none 0 0) := (hz.cell 0).trans rfl
      have z6 := hz.frozen 0
      have z7 : w8.cell? ⟨(w.heap.size + 1), 1, none⟩ = some (.int .i64 0) := (hz.cell 1).trans rfl
      have z8 := hz.frozen 1
      have y0 : (w8.alloc (.cells #[.slice none 0 0, .int .i64 0] 49)).cell? ⟨(w.heap.size + 1), 0, none⟩ = some (.slice none 0 0) := ((hz.alloc (.cells #[.slice none 0 0, .int .i64 0] 49)).cell 0).trans rfl
      have yf0 := (hz.alloc (.cells #[.slice none 0 0, .int .i64 0] 49)).frozen 0
      have y1 : (w8.alloc (.cells #[.slice none 0 0, .int .i64 0] 49)).cell? ⟨(w.heap.size + 1), 1, none⟩ = some (.int .i64 0) := ((hz.alloc (.cells #[.slice none 0 0, .int .i64 0] 49)).cell 1).trans rfl
      have yf1 := (hz.alloc (.cells #[.slice none 0 0, .int .i64 0] 49)).frozen 1
      go_wp2_with fail
      refine ret_c2 rfl curT8 rfl (by repeat (first | with_reducible exact hz | with_reducible (apply Blk.set_) | with_reducible (apply Blk.far; case hp => (simp <;> omega)) | with_reducible (apply Blk.alloc) | with_reducible (apply Blk.drew))) (by rfl) ?_
      unfold DcP
      exact ⟨none, 0, by rw [HV.out.1, HV.out.2, HE.out]; rfl, by rw [HV.out.1]; exact World.ownsRow_nil _ _ _ _, (by have hs_ := hB.size; repeat (first | with_reducible exact hB | with_reducible (refine Below.setCell ?_ (by simp <;> omega) _) | with_reducible (refine Below.alloc ?_ (by first | exact hs_ | (simp <;> omega)) _) | with_reducible (refine Below.drew ?_)))⟩
    obtain ⟨v, hvv⟩ : ∃ v, (uvR l (q2 : Int)).2.1 = v := ⟨_, rfl⟩
    obtain ⟨u2, huv⟩ : ∃ u2, (uvR l (q2 : Int)).2.2 = u2 := ⟨_, rfl⟩
    have hR2 : uvR l (q2 : Int) = (0, v, u2) := by rw [← hx2, ← hvv, ← huv]
    obtain ⟨_, hvl, hqu⟩ := uv64_ok A n c (HCQ.out q2 hq2n) hR2
    obtain ⟨q3, hq3⟩ : ∃ q3, q2 + u2 = q3 := ⟨_, rfl⟩
    have hq3n : q3 ≤ n := by rw [HL.out] at hqu; omega
    have hE2 : rdE l (q2 : Int) = 0 := hx2
    have HO2 := Lib.hid (show rdC A n c l (q2 : Int) = cur A n c (q3 : Int) ∧ rdN l (q2 : Int) = v ∧ rdE l (q2 : Int) = 0 from ⟨by rw [rdC, if_pos hE2, huv, show (q2 : Int) + (u2 : Int) = (q3 : Int) from by omega], by rw [rdN, if_pos hE2, hvv], hE2⟩)
    have hW := rw_ok (k := N - (j + 1)) hR (by rw [hq2]; exact hR2)
    rw [hq2, hq3, ← hM] at hW
    have HN1 := Lib.hid (show (rwR l N b0).1 = (rwR l (N - (j + 1)) q3).1 from by rw [HR1.out, hW])
    have HN2 := Lib.hid (show (rwR l N b0).1 = 0 → (rwR l N b0).2.1 = (done ++ [(x, v)]) ++ (rwR l (N - (j + 1)) q3).2.1 ∧ (rwR l N b0).2.2 = (rwR l (N - (j + 1)) q3).2.2 from fun h => by
      obtain ⟨e1, e2⟩ := HR2.out h
      rw [e1, e2, hW]
      simp)
    clear hx2 hvv hqu hW hR2 hR hq2 hq3 huu huv hM hE2
    have z1 : wr.cell? ⟨pn, 0, none⟩ = some (.slice A n c) := (hn.cell 0).trans rfl
    have z2 : wr.cell? ⟨pn, 1, none⟩ = some (.int .i64 (q : Int)) := (hn.cell 1).trans rfl
    go_wp2_with fail
    clear z1 z2
    refine (H1.out _ (HR.out.mv hB)).mono ?_
    rintro e w6 ⟨rfl, b⟩
    rw [HO1.out.1, HO1.out.2.1, HO1.out.2.2]
    replace hown := own_call hown b
    replace hc0 := hc0.below b hc0.lt
    replace hz := hz.below b hz.lt
    replace hn := hn.below b hn.lt
    replace hB := hB.trans (b.mono hB.size)
    clear b
    have b := Ext.al w6 (.cells #[.slice A n c, .int .i64 (q2 : Int)] 49)
    have ha := Blk.new w6 49 #[.slice A n c, .int .i64 (q2 : Int)]
    have o_hc0_ha := hc0.lt
    have o_hz_ha := hz.lt
    have o_hn_ha := hn.lt
    replace hown := own_call hown b
    replace hc0 := hc0.below b hc0.lt
    replace hz := hz.below b hz.lt
    replace hn := hn.below b hn.lt
    replace hB := hB.trans (b.mono hB.size)
    clear b
    have z3 : (w6.alloc (.cells #[.slice A n c, .int .i64 (q2 : Int)] 49)).cell? ⟨w6.heap.size, 0, none⟩ = some (.slice A n c) := (ha.cell 0).trans rfl
    have z4 : (w6.alloc (.cells #[.slice A n c, .int .i64 (q2 : Int)] 49)).cell? ⟨w6.heap.size, 1, none⟩ = some (.int .i64 (q2 : Int)) := (ha.cell 1).trans rfl
    go_wp2_with fail
    clear z3 z4
    generalize w6.alloc (.cells #[.slice A n c, .int .i64 (q2 : Int)] 49) = w7 at *
    generalize w6.heap.size = pa at *
    refine (H2.out _ (HR.out.mv hB)).mono ?_
    rintro e w8 ⟨rfl, b⟩
    rw [HO2.out.1, HO2.out.2.1, HO2.out.2.2]
    replace hown := own_call hown b
    replace hc0 := hc0.below b hc0.lt
    replace hz := hz.below b hz.lt
    replace hn := hn.below b hn.lt
    replace ha := ha.below b ha.lt
    replace hB := hB.trans (b.mono hB.size)
    clear b
    have b := Ext.al w8 (.cells #[.slice A n c, .int .i64 (q3 : Int)] 49)
    have hb := Blk.new w8 49 #[.slice A n c, .int .i64 (q3 : Int)]
    have o_hc0_hb := hc0.lt
    have o_hz_hb := hz.lt
    have o_hn_hb := hn.lt
    have o_ha_hb := ha.lt
    replace hown := own_call hown b
    replace hc0 := hc0.below b hc0.lt
    replace hz := hz.below b hz.lt
    replace hn := hn.below b hn.lt
    replace ha := ha.below b ha.lt
    replace hB := hB.trans (b.mono hB.size)
    clear b
    by_cases h200 : x ≤ 1000
    · by_cases h300 : enR 0 done + x ≤ 1000
      · have hmin : min (enR 0 done + min x 1000) 1000 = enR 0 done + x := by omega
        have hm1 : (x : Int) ≤ 1000 := by omega
        have hm2 : (enR 0 done : Int) + (x : Int) ≤ 1000 := by omega
        go_wp2_with (at_builtin; refine wpList_app rfl (.tmp 67) (.tmp 72) _ rfl slR w.heap.size _ j _ rfl (own_call hown (Ext.al _ _)) _ (some ⟨w8.heap.size + 1, 0, none⟩) 1 1 [.int .i64 ((enR 0 done : Int) + (x : Int)), .int .u64 (v : Int)] rfl (reads_two_at (by simp) _ _ _) (by simp [Value.oneCell']) (by omega) (by have := hB.size; simp at this ⊢; omega) ?_; intro A2 c2 w10 hown2 hg2 hb2 hc2; have hc0_ := (hc0.below (Ext.al _ (.cells #[.int .i64 ((enR 0 done : Int) + (x : Int)), .int .u64 (v : Int)] 61)) hc0.lt).grown hg2 (fun h => own_blk_ne (own_call hown (Ext.al _ (.cells #[.int .i64 ((enR 0 done : Int) + (x : Int)), .int .u64 (v : Int)] 61))) (hc0.below (Ext.al _ (.cells #[.int .i64 ((enR 0 done : Int) + (x : Int)), .int .u64 (v : Int)] 61)) hc0.lt) (by decide) h.symm); have hz_ := (hz.below (Ext.al _ (.cells #[.int .i64 ((enR 0 done : Int) + (x : Int)), .int .u64 (v : Int)] 61)) hz.lt).grown hg2 (fun h => own_blk_ne (own_call hown (Ext.al _ (.cells #[.int .i64 ((enR 0 done : Int) + (x : Int)), .int .u64 (v : Int)] 61))) (hz.below (Ext.al _ (.cells #[.int .i64 ((enR 0 done : Int) + (x : Int)), .int .u64 (v : Int)] 61)) hz.lt) (by decide) h.symm); have hn_ := (hn.below (Ext.al _ (.cells #[.int .i64 ((enR 0 done : Int) + (x : Int)), .int .u64 (v : Int)] 61)) hn.lt).grown hg2 (fun h => own_blk_ne (own_call hown (Ext.al _ (.cells #[.int .i64 ((enR 0 done : Int) + (x : Int)), .int .u64 (v : Int)] 61))) (hn.below (Ext.al _ (.cells #[.int .i64 ((enR 0 done : Int) + (x : Int)), .int .u64 (v : Int)] 61)) hn.lt) (by decide) h.symm); have hb_ := (hb.below (Ext.al _ (.cells #[.int .i64 ((enR 0 done : Int) + (x : Int)), .int .u64 (v : Int)] 61)) hb.lt).grown hg2 (fun h => own_blk_ne (own_call hown (Ext.al _ (.cells #[.int .i64 ((enR 0 done : Int) + (x : Int)), .int .u64 (v : Int)] 61))) (hb.below (Ext.al _ (.cells #[.int .i64 ((enR 0 done : Int) + (x : Int)), .int .u64 (v : Int)] 61)) hb.lt) (by decide) h.symm); have y0 : w10.cell? ⟨w8.heap.size, 0, none⟩ = some (.slice A n c) := (hb_.cell 0).trans rfl; have y1 : w10.cell? ⟨w8.heap.size, 1, none⟩ = some (.int .i64 (q3 : Int)) := (hb_.cell 1).trans rfl; have y2 : w10.cell? ⟨pn, 0, none⟩ = some (.slice A n c) := (hn_.cell 0).trans rfl; have y3 : w10.cell? ⟨pn, 1, none⟩ = some (.int .i64 (q : Int)) := (hn_.cell 1).trans rfl; have y4 := hn_.frozen 0; have y5 := hn_.frozen 1)
        have hB10 := (hB.trans (Below.mono (Ext.al _ (.cells #[.int .i64 ((enR 0 done : Int) + (x : Int)), .int .u64 (v : Int)] 61)) hB.size)).trans hb2
        have hn11 := (hn_.set_ 0 (.slice A n c)).set_ 1 (.int .i64 (q3 : Int))
        have own11 := own_setNe (own_setNe hown2 hn_ (by decide) 0 (.slice A n c)) (hn_.set_ 0 (.slice A n c)) (by decide) 1 (.int .i64 (q3 : Int))
        have hB11 := (hB10.setCell (p := ⟨pn, 0, none⟩) (by simp <;> omega) (.slice A n c)).setCell (p := ⟨pn, 1, none⟩) (by simp <;> omega) (.int .i64 (q3 : Int))
        go_roundw
        case rel => exact ⟨j + 1, q3, done ++ [(x, v)], A2, c2, by omega, by go_num, by rw [enR_snoc, show min (enR 0 done + min (x, v).1 1000) 1000 = enR 0 done + x from hmin]; simp, rfl, by simp [HD.out], hq3n, HN1.out, HN2.out, fun p hp => by (rcases List.mem_append.1 hp with h | h; exact HDV.out p h; simp at h; subst h; exact hvl), ((hc0_.far (p := ⟨pn, 0, none⟩) (by simp <;> omega) (.slice A n c)).far (p := ⟨pn, 1, none⟩) (by simp <;> omega) (.int .i64 (q3 : Int))), ((hz_.far (p := ⟨pn, 0, none⟩) (by simp <;> omega) (.slice A n c)).far (p := ⟨pn, 1, none⟩) (by simp <;> omega) (.int .i64 (q3 : Int))), hn11, by rw [smR_snoc, rnC_append, show min (enR 0 done + min (x, v).1 1000) 1000 = enR 0 done + x from hmin]; simpa [rnC] using own11, hB11⟩
        case measure => simp [intOf]; omega
      · have hmin : min (enR 0 done + min x 1000) 1000 = 1000 := by omega
        have hm1 : (x : Int) ≤ 1000 := by omega
        have hm2 : ¬ (enR 0 done : Int) + (x : Int) ≤ 1000 := by omega
        go_wp2_with (at_builtin; refine wpList_app rfl (.tmp 67) (.tmp 72) _ rfl slR w.heap.size _ j _ rfl (own_call hown (Ext.al _ _)) _ (some ⟨w8.heap.size + 1, 0, none⟩) 1 1 [.int .i64 (1000), .int .u64 (v : Int)] rfl (reads_two_at (by simp) _ _ _) (by simp [Value.oneCell']) (by omega) (by have := hB.size; simp at this ⊢; omega) ?_; intro A2 c2 w10 hown2 hg2 hb2 hc2; have hc0_ := (hc0.below (Ext.al _ (.cells #[.int .i64 (1000), .int .u64 (v : Int)] 61)) hc0.lt).grown hg2 (fun h => own_blk_ne (own_call hown (Ext.al _ (.cells #[.int .i64 (1000), .int .u64 (v : Int)] 61))) (hc0.below (Ext.al _ (.cells #[.int .i64 (1000), .int .u64 (v : Int)] 61)) hc0.lt) (by decide) h.symm); have hz_ := (hz.below (Ext.al _ (.cells #[.int .i64 (1000), .int .u64 (v : Int)] 61)) hz.lt).grown hg2 (fun h => own_blk_ne (own_call hown (Ext.al _ (.cells #[.int .i64 (1000), .int .u64 (v : Int)] 61))) (hz.below (Ext.al _ (.cells #[.int .i64 (1000), .int .u64 (v : Int)] 61)) hz.lt) (by decide) h.symm); have hn_ := (hn.below (Ext.al _ (.cells #[.int .i64 (1000), .int .u64 (v : Int)] 61)) hn.lt).grown hg2 (fun h => own_blk_ne (own_call hown (Ext.al _ (.cells #[.int .i64 (1000), .int .u64 (v : Int)] 61))) (hn.below (Ext.al _ (.cells #[.int .i64 (1000), .int .u64 (v : Int)] 61)) hn.lt) (by decide) h.symm); have hb_ := (hb.below (Ext.al _ (.cells #[.int .i64 (1000), .int .u64 (v : Int)] 61)) hb.lt).grown hg2 (fun h => own_blk_ne (own_call hown (Ext.al _ (.cells #[.int .i64 (1000), .int .u64 (v : Int)] 61))) (hb.below (Ext.al _ (.cells #[.int .i64 (1000), .int .u64 (v : Int)] 61)) hb.lt) (by decide) h.symm); have y0 : w10.cell? ⟨w8.heap.size, 0, none⟩ = some (.slice A n c) := (hb_.cell 0).trans rfl; have y1 : w10.cell? ⟨w8.heap.size, 1, none⟩ = some (.int .i64 (q3 : Int)) := (hb_.cell 1).trans rfl; have y2 : w10.cell? ⟨pn, 0, none⟩ = some (.slice A n c) := (hn_.cell 0).trans rfl; have y3 : w10.cell? ⟨pn, 1, none⟩ = some (.int .i64 (q : Int)) := (hn_.cell 1).trans rfl; have y4 := hn_.frozen 0; have y5 := hn_.frozen 1)
        have hB10 := (hB.trans (Below.mono (Ext.al _ (.cells #[.int .i64 (1000), .int .u64 (v : Int)] 61)) hB.size)).trans hb2
        have hn11 := (hn_.set_ 0 (.slice A n c)).set_ 1 (.int .i64 (q3 : Int))
        have own11 := own_setNe (own_setNe hown2 hn_ (by decide) 0 (.slice A n c)) (hn_.set_ 0 (.slice A n c)) (by decide) 1 (.int .i64 (q3 : Int))
        have hB11 := (hB10.setCell (p := ⟨pn, 0, none⟩) (by simp <;> omega) (.slice A n c)).setCell (p := ⟨pn, 1, none⟩) (by simp <;> omega) (.int .i64 (q3 : Int))
        go_roundw
        case rel => exact ⟨j + 1, q3, done ++ [(x, v)], A2, c2, by omega, by go_num, by rw [enR_snoc, show min (enR 0 done + min (x, v).1 1000) 1000 = 1000 from hmin]; simp, rfl, by simp [HD.out], hq3n, HN1.out, HN2.out, fun p hp => by (rcases List.mem_append.1 hp with h | h; exact HDV.out p h; simp at h; subst h; exact hvl), ((hc0_.far (p := ⟨pn, 0, none⟩) (by simp <;> omega) (.slice A n c)).far (p := ⟨pn, 1, none⟩) (by simp <;> omega) (.int .i64 (q3 : Int))), ((hz_.far (p := ⟨pn, 0, none⟩) (by simp <;> omega) (.slice A n c)).far (p := ⟨pn, 1, none⟩) (by simp <;> omega) (.int .i64 (q3 : Int))), hn11, by rw [smR_snoc, rnC_append, show min (enR 0 done + min (x, v).1 1000) 1000 = 1000 from hmin]; simpa [rnC] using own11, hB11⟩
        case measure => simp [intOf]; omega
    · by_cases h300 : enR 0 done + 1000 ≤ 1000
      · have hmin : min (enR 0 done + min x 1000) 1000 = enR 0 done + 1000 := by omega
        have hm1 : ¬ (x : Int) ≤ 1000 := by omega
        have hm2 : (enR 0 done : Int) + 1000 ≤ 1000 := by omega
        go_wp2_with (at_builtin; refine wpList_app rfl (.tmp 67) (.tmp 72) _ rfl slR w.heap.size _ j _ rfl (own_call hown (Ext.al _ _)) _ (some ⟨w8.heap.size + 1, 0, none⟩) 1 1 [.int .i64 ((enR 0 done : Int) + 1000), .int .u64 (v : Int)] rfl (reads_two_at (by simp) _ _ _) (by simp [Value.oneCell']) (by omega) (by have := hB.size; simp at this ⊢; omega) ?_; intro A2 c2 w10 hown2 hg2 hb2 hc2; have hc0_ := (hc0.below (Ext.al _ (.cells #[.int .i64 ((enR 0 done : Int) + 1000), .int .u64 (v : Int)] 61)) hc0.lt).grown hg2 (fun h => own_blk_ne (own_call hown (Ext.al _ (.cells #[.int .i64 ((enR 0 done : Int) + 1000), .int .u64 (v : Int)] 61))) (hc0.below (Ext.al _ (.cells #[.int .i64 ((enR 0 done : Int) + 1000), .int .u64 (v : Int)] 61)) hc0.lt) (by decide) h.symm); have hz_ := (hz.below (Ext.al _ (.cells #[.int .i64 ((enR 0 done : Int) + 1000), .int .u64 (v : Int)] 61)) hz.lt).grown hg2 (fun h => own_blk_ne (own_call hown (Ext.al _ (.cells #[.int .i64 ((enR 0 done : Int) + 1000), .int .u64 (v : Int)] 61))) (hz.below (Ext.al _ (.cells #[.int .i64 ((enR 0 done : Int) + 1000), .int .u64 (v : Int)] 61)) hz.lt) (by decide) h.symm); have hn_ := (hn.below (Ext.al _ (.cells #[.int .i64 ((enR 0 done : Int) + 1000), .int .u64 (v : Int)] 61)) hn.lt).grown hg2 (fun h => own_blk_ne (own_call hown (Ext.al _ (.cells #[.int .i64 ((enR 0 done : Int) + 1000), .int .u64 (v : Int)] 61))) (hn.below (Ext.al _ (.cells #[.int .i64 ((enR 0 done : Int) + 1000), .int .u64 (v : Int)] 61)) hn.lt) (by decide) h.symm); have hb_ := (hb.below (Ext.al _ (.cells #[.int .i64 ((enR 0 done : Int) + 1000), .int .u64 (v : Int)] 61)) hb.lt).grown hg2 (fun h => own_blk_ne (own_call hown (Ext.al _ (.cells #[.int .i64 ((enR 0 done : Int) + 1000), .int .u64 (v : Int)] 61))) (hb.below (Ext.al _ (.cells #[.int .i64 ((enR 0 done : Int) + 1000), .int .u64 (v : Int)] 61)) hb.lt) (by decide) h.symm); have y0 : w10.cell? ⟨w8.heap.size, 0, none⟩ = some (.slice A n c) := (hb_.cell 0).trans rfl; have y1 : w10.cell? ⟨w8.heap.size, 1, none⟩ = some (.int .i64 (q3 : Int)) := (hb_.cell 1).trans rfl; have y2 : w10.cell? ⟨pn, 0, none⟩ = some (.slice A n c) := (hn_.cell 0).trans rfl; have y3 : w10.cell? ⟨pn, 1, none⟩ = some (.int .i64 (q : Int)) := (hn_.cell 1).trans rfl; have y4 := hn_.frozen 0; have y5 := hn_.frozen 1)
        have hB10 := (hB.trans (Below.mono (Ext.al _ (.cells #[.int .i64 ((enR 0 done : Int) + 1000), .int .u64 (v : Int)] 61)) hB.size)).trans hb2
        have hn11 := (hn_.set_ 0 (.slice A n c)).set_ 1 (.int .i64 (q3 : Int))
        have own11 := own_setNe (own_setNe hown2 hn_ (by decide) 0 (.slice A n c)) (hn_.set_ 0 (.slice A n c)) (by decide) 1 (.int .i64 (q3 : Int))
        have hB11 := (hB10.setCell (p := ⟨pn, 0, none⟩) (by simp <;> omega) (.slice A n c)).setCell (p := ⟨pn, 1, none⟩) (by simp <;> omega) (.int .i64 (q3 : Int))
        go_roundw
        case rel => exact ⟨j + 1, q3, done ++ [(x, v)], A2, c2, by omega, by go_num, by rw [enR_snoc, show min (enR 0 done + min (x, v).1 1000) 1000 = enR 0 done + 1000 from hmin]; simp, rfl, by simp [HD.out], hq3n, HN1.out, HN2.out, fun p hp => by (rcases List.mem_append.1 hp with h | h; exact HDV.out p h; simp at h; subst h; exact hvl), ((hc0_.far (p := ⟨pn, 0, none⟩) (by simp <;> omega) (.slice A n c)).far (p := ⟨pn, 1, none⟩) (by simp <;> omega) (.int .i64 (q3 : Int))), ((hz_.far (p := ⟨pn, 0, none⟩) (by simp <;> omega) (.slice A n c)).far (p := ⟨pn, 1, none⟩) (by simp <;> omega) (.int .i64 (q3 : Int))), hn11, by rw [smR_snoc, rnC_append, show min (enR 0 done + min (x, v).1 1000) 1000 = enR 0 done + 1000 from hmin]; simpa [rnC] using own11, hB11⟩
        case measure => simp [intOf]; omega
      · have hmin : min (enR 0 done + min x 1000) 1000 = 1000 := by omega
        have hm1 : ¬ (x : Int) ≤ 1000 := by omega
        have hm2 : ¬ (enR 0 done : Int) + 1000 ≤ 1000 := by omega
        go_wp2_with (at_builtin; refine wpList_app rfl (.tmp 67) (.tmp 72) _ rfl slR w.heap.size _ j _ rfl (own_call hown (Ext.al _ _)) _ (some ⟨w8.heap.size + 1, 0, none⟩) 1 1 [.int .i64 (1000), .int .u64 (v : Int)] rfl (reads_two_at (by simp) _ _ _) (by simp [Value.oneCell']) (by omega) (by have := hB.size; simp at this ⊢; omega) ?_; intro A2 c2 w10 hown2 hg2 hb2 hc2; have hc0_ := (hc0.below (Ext.al _ (.cells #[.int .i64 (1000), .int .u64 (v : Int)] 61)) hc0.lt).grown hg2 (fun h => own_blk_ne (own_call hown (Ext.al _ (.cells #[.int .i64 (1000), .int .u64 (v : Int)] 61))) (hc0.below (Ext.al _ (.cells #[.int .i64 (1000), .int .u64 (v : Int)] 61)) hc0.lt) (by decide) h.symm); have hz_ := (hz.below (Ext.al _ (.cells #[.int .i64 (1000), .int .u64 (v : Int)] 61)) hz.lt).grown hg2 (fun h => own_blk_ne (own_call hown (Ext.al _ (.cells #[.int .i64 (1000), .int .u64 (v : Int)] 61))) (hz.below (Ext.al _ (.cells #[.int .i64 (1000), .int .u64 (v : Int)] 61)) hz.lt) (by decide) h.symm); have hn_ := (hn.below (Ext.al _ (.cells #[.int .i64 (1000), .int .u64 (v : Int)] 61)) hn.lt).grown hg2 (fun h => own_blk_ne (own_call hown (Ext.al _ (.cells #[.int .i64 (1000), .int .u64 (v : Int)] 61))) (hn.below (Ext.al _ (.cells #[.int .i64 (1000), .int .u64 (v : Int)] 61)) hn.lt) (by decide) h.symm); have hb_ := (hb.below (Ext.al _ (.cells #[.int .i64 (1000), .int .u64 (v : Int)] 61)) hb.lt).grown hg2 (fun h => own_blk_ne (own_call hown (Ext.al _ (.cells #[.int .i64 (1000), .int .u64 (v : Int)] 61))) (hb.below (Ext.al _ (.cells #[.int .i64 (1000), .int .u64 (v : Int)] 61)) hb.lt) (by decide) h.symm); have y0 : w10.cell? ⟨w8.heap.size, 0, none⟩ = some (.slice A n c) := (hb_.cell 0).trans rfl; have y1 : w10.cell? ⟨w8.heap.size, 1, none⟩ = some (.int .i64 (q3 : Int)) := (hb_.cell 1).trans rfl; have y2 : w10.cell? ⟨pn, 0, none⟩ = some (.slice A n c) := (hn_.cell 0).trans rfl; have y3 : w10.cell? ⟨pn, 1, none⟩ = some (.int .i64 (q : Int)) := (hn_.cell 1).trans rfl; have y4 := hn_.frozen 0; have y5 := hn_.frozen 1)
        have hB10 := (hB.trans (Below.mono (Ext.al _ (.cells #[.int .i64 (1000), .int .u64 (v : Int)] 61)) hB.size)).trans hb2
        have hn11 := (hn_.set_ 0 (.slice A n c)).set_ 1 (.int .i64 (q3 : Int))
        have own11 := own_setNe (own_setNe hown2 hn_ (by decide) 0 (.slice A n c)) (hn_.set_ 0 (.slice A n c)) (by decide) 1 (.int .i64 (q3 : Int))
        have hB11 := (hB10.setCell (p := ⟨pn, 0, none⟩) (by simp <;> omega) (.slice A n c)).setCell (p := ⟨pn, 1, none⟩) (by simp <;> omega) (.int .i64 (q3 : Int))
        go_roundw
        case rel => exact ⟨j + 1, q3, done ++ [(x, v)], A2, c2, by omega, by go_num, by rw [enR_snoc, show min (enR 0 done + min (x, v).1 1000) 1000 = 1000 from hmin]; simp, rfl, by simp [HD.out], hq3n, HN1.out, HN2.out, fun p hp => by (rcases List.mem_append.1 hp with h | h; exact HDV.out p h; simp at h; subst h; exact hvl), ((hc0_.far (p := ⟨pn, 0, none⟩) (by simp <;> omega) (.slice A n c)).far (p := ⟨pn, 1, none⟩) (by simp <;> omega) (.int .i64 (q3 : Int))), ((hz_.far (p := ⟨pn, 0, none⟩) (by simp <;> omega) (.slice A n c)).far (p := ⟨pn, 1, none⟩) (by simp <;> omega) (.int .i64 (q3 : Int))), hn11, by rw [smR_snoc, rnC_append, show min (enR 0 done + min (x, v).1 1000) 1000 = 1000 from hmin]; simpa [rnC] using own11, hB11⟩
        case measure => simp [intOf]; omega

end Go.Proofs.Ytibkimmagiijnaa
