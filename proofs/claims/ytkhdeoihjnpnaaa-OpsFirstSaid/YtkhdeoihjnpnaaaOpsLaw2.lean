/- No encoding of an instruction begins another one, and a first part of one is too short. Plain Lean, no program. -/
import Derived.Test.YtkhdeoihjnpnaaaOpsLaw
namespace Go.Proofs.Ytkhdeoihjnpnaaa
open Go.RowKit Wire
set_option linter.unusedVariables false

theorem encU_cut {u : Use} {v : Int} {l : List UInt8} {p t : Nat} (hl : l.length ≤ 200000) (hp : p ≤ l.length) (hg : Good u v) (ht : t < (encU u v).length) (hd : l.drop p = (encU u v).take t) : uvE l (p : Int) 18446744073709551615 = 24 := by
  obtain ⟨h1, h2, h3⟩ := hg
  have key : ∀ k, k < 18446744073709551616 → t < (vry k).length → l.drop p = (vry k).take t → uvE l (p : Int) 18446744073709551615 = 24 := by
    intro k hk ht hd
    have hr : uvR l (p : Int) = (24, 0, 0) := by
      unfold uvR
      rw [Int.toNat_natCast, hd]
      exact rd_cut hk ht
    unfold uvE
    rw [if_pos (ck_yes hp hl), hr]
    rfl
  by_cases hn : u.1 < 0
  · have he : encU u v = vry (dbl v) := by unfold encU; rw [if_pos hn]
    rw [he] at ht hd
    exact key _ (dbl_lt h3) ht hd
  · obtain ⟨k, rfl⟩ := Int.eq_ofNat_of_zero_le (show 0 ≤ v by omega)
    have he : encU u (k : Int) = vry k := by unfold encU; rw [if_neg hn]; rfl
    rw [he] at ht hd
    exact key k (by omega) ht hd
theorem dc_cut {l : List UInt8} (hl : l.length ≤ 200000) : ∀ (us : List Use) (vs : List Int) (n p t : Nat), us.length = vs.length → t < (encL n us vs).length → l.drop p = (encL n us vs).take t → p ≤ l.length →
    (∀ (i : Nat) (u : Use) (v : Int), i < n → us[i]? = some u → vs[i]? = some v → Good u v) → (dcL n us l p).1 = 24 := by
  intro us
  induction us with
  | nil => intro vs n p t _ ht; rw [encL_nil] at ht; simp at ht
  | cons u us ih =>
    intro vs n p t hlen ht hd hp hg
    cases vs with
    | nil => simp at hlen
    | cons v vs =>
      cases n with
      | zero => have : encL 0 (u :: us) (v :: vs) = [] := rfl
                rw [this] at ht; simp at ht
      | succ n =>
        have e0 : encL (n + 1) (u :: us) (v :: vs) = encU u v ++ encL n us vs := rfl
        rw [e0] at ht hd
        have hgu := hg 0 u v (by omega) rfl rfl
        by_cases hc : t < (encU u v).length
        · rw [List.take_append_of_le_length (by omega)] at hd
          have := encU_cut hl hp hgu hc hd
          rw [dcL_bad (by rw [this]; decide), this]
        · rw [List.take_append, List.take_of_length_le (by omega)] at hd
          obtain ⟨e1, e2, e3⟩ := enc_dec hl hp hd hgu
          have hd2 := drop_len hd rfl
          have hp2 : p + (encU u v).length ≤ l.length := by
            have := congrArg List.length hd
            rw [List.length_drop, List.length_append] at this
            omega
          rw [dcL_ok e1, e3]
          simp only
          rw [List.length_append] at ht
          exact ih vs n _ _ (by simpa using hlen) (by omega) hd2 hp2 (fun i u' v' hi h1 h2 => hg (i + 1) u' v' (by omega) (by simpa using h1) (by simpa using h2))
theorem dec_cutI {op : Nat} {x y z : Int} (hop : op < 256) (hx : -9223372036854775808 ≤ x ∧ x ≤ 9223372036854775807) (hy : -9223372036854775808 ≤ y ∧ y ≤ 9223372036854775807) (hz : -9223372036854775808 ≤ z ∧ z ≤ 9223372036854775807)
    (hck : ckI op x y z = 0) {k : Nat} (hk : k < (enI op x y z).length) (hlen : (enI op x y z).length ≤ 31) : dcE ((enI op x y z).take k) 0 = 24 := by
  have h0 := shp_enc op
  obtain ⟨a1, a2, a3, a4, b1, b2, b3, b4, c1, c2, c3, c4, n, hs, hn1, hn3⟩ := shp_form op
  obtain ⟨hn0, fa, fb, fc⟩ := ck_parts hck hs
  obtain ⟨m, rfl⟩ := Int.eq_ofNat_of_zero_le hn0
  rw [hs] at h0
  simp only [encOk, Bool.and_eq_true] at h0
  obtain ⟨ga, gb, gc⟩ := h0
  have hen : enI op x y z = UInt8.ofNat op :: encL m [(a1, a2, a3, a4), (b1, b2, b3, b4), (c1, c2, c3, c4)] [x, y, z] := by rw [enI, if_pos hck, hs]; rfl
  have hll : ((enI op x y z).take k).length = k := by rw [List.length_take]; omega
  cases k with
  | zero => rfl
  | succ t =>
    have ht31 : t + 1 ≤ 31 := by omega
    generalize hl : (enI op x y z).take (t + 1) = l at hll ⊢
    rw [hen] at hk hl
    have e0 : l.getD 0 0 = UInt8.ofNat op := by rw [← hl]; rfl
    have hop2 : (l.getD 0 0).toNat = op := by rw [e0, ofNat_op hop]
    have hdr : l.drop 1 = (encL m [(a1, a2, a3, a4), (b1, b2, b3, b4), (c1, c2, c3, c4)] [x, y, z]).take t := by rw [← hl]; rfl
    have hD : (dcD l 0).1 = 24 := by
      unfold dcD
      rw [hop2, hs]
      refine dc_cut (by omega) _ _ m 1 t rfl (by simpa using hk) hdr (by omega) (fun i u v hi h1 h2 => ?_)
      rcases i with _ | _ | _ | i
      · injection h1 with h1; injection h2 with h2; subst h1 h2
        rw [decide_eq_true (by omega)] at ga; exact uOk_in ga fa hx
      · injection h1 with h1; injection h2 with h2; subst h1 h2
        rw [decide_eq_true (by omega)] at gb; exact uOk_in gb fb hy
      · injection h1 with h1; injection h2 with h2; subst h1 h2
        rw [decide_eq_true (by omega)] at gc; exact uOk_in gc fc hz
      · simp at h1
    rw [dcE, show ckB l.length 0 = true from by simp [ckB]; omega, if_neg (by simp), if_neg (by simp; omega), show ((0 : Int)).toNat = 0 from rfl, hop2, hs, if_neg (by simp), hD, if_pos (by decide)]
/-- An encoding begins another one only if both are one instruction's. -/
theorem enI_inj {op : Nat} {x y z : Int} {op2 : Nat} {x2 y2 z2 : Int} (hop : op < 256) (hx : -9223372036854775808 ≤ x ∧ x ≤ 9223372036854775807) (hy : -9223372036854775808 ≤ y ∧ y ≤ 9223372036854775807) (hz : -9223372036854775808 ≤ z ∧ z ≤ 9223372036854775807)
    (hop2 : op2 < 256) (hx2 : -9223372036854775808 ≤ x2 ∧ x2 ≤ 9223372036854775807) (hy2 : -9223372036854775808 ≤ y2 ∧ y2 ≤ 9223372036854775807) (hz2 : -9223372036854775808 ≤ z2 ∧ z2 ≤ 9223372036854775807)
    (h1 : ckI op x y z = 0) (h2 : ckI op2 x2 y2 z2 = 0) {r : List UInt8} (hr : r.length ≤ 31) (h : enI op2 x2 y2 z2 = enI op x y z ++ r) : op = op2 ∧ x = x2 ∧ y = y2 ∧ z = z2 := by
  obtain ⟨_, a1, a2, a3, a4, _⟩ := dec_enI hop hx hy hz h1 (b := r) (by omega) h
  obtain ⟨_, b1, b2, b3, b4, _⟩ := dec_enI hop2 hx2 hy2 hz2 h2 (b := []) (by simp) (List.append_nil _).symm
  exact ⟨a1.symm.trans b1, a2.symm.trans b2, a3.symm.trans b3, a4.symm.trans b4⟩
end Go.Proofs.Ytkhdeoihjnpnaaa
