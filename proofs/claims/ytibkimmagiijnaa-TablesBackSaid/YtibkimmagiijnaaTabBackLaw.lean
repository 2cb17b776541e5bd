/- What was written is read, and back: plain laws of runs. Each states its conditions. -/
import Derived.Test.YtibkimmagiijnaaTablesMakes
namespace Go.Proofs.Ytibkimmagiijnaa
open Go.RowKit Wire
set_option linter.unusedVariables false

/-- Runs that go up from an instruction on, below a bound. -/
def okM (K : Nat) : Nat → List (Int × Nat) → Prop
  | _, [] => True
  | s, p :: r => (s : Int) ≤ p.1 ∧ p.1 < (K : Int) ∧ p.2 < 18446744073709551616 ∧ okM K p.1.toNat r
theorem okM_of {K : Nat} {r : List (Int × Nat)} : ∀ {p : Int × Nat}, frB p r (K : Int) = true → 0 ≤ p.1 → (∀ q ∈ r, fitR q) → okM K p.1.toNat r := by
  induction r with
  | nil => intro p _ _ _; trivial
  | cons q r ih =>
    intro p h hp hf
    simp only [frB, Bool.and_eq_true, decide_eq_true_eq] at h
    exact ⟨by have := h.1.2.1; omega, h.1.1, (hf q (by simp)).2, ih h.2 (by have := h.1.2.1; omega) (fun x hx => hf x (by simp [hx]))⟩
theorem okM_fn {K : Nat} {L : List (Int × Nat)} (h : fnB L (K : Int) = true) (hf : ∀ q ∈ L, fitR q) : okM K 0 L := by
  rcases L with _ | ⟨p, r⟩
  · trivial
  · rw [fnB_ref] at h
    simp only [Bool.and_eq_true, beq_iff_eq, decide_eq_true_eq] at h
    exact ⟨by omega, by have := h.2.1; omega, (hf p (by simp)).2, okM_of h.2.2 (by omega) (fun x hx => hf x (by simp [hx]))⟩
theorem fn_len2 {L : List (Int × Nat)} {K : Nat} (h : fnB L (K : Int) = true) : 0 < L.length ∧ L.length ≤ K := by
  have key : ∀ (r : List (Int × Nat)) (p : Int × Nat), frB p r (K : Int) = true → p.1 < (K : Int) → (r.length : Int) < (K : Int) - p.1 := by
    intro r
    induction r with
    | nil => intro p _ hp; simp; omega
    | cons q r ih =>
      intro p hf hp
      simp only [frB, Bool.and_eq_true, decide_eq_true_eq] at hf
      have := ih q hf.2 hf.1.1
      simp only [List.length_cons]
      have := hf.1.2.1
      omega
  rcases L with _ | ⟨p, r⟩
  · cases h
  · rw [fnB_ref] at h
    simp only [Bool.and_eq_true, beq_iff_eq, decide_eq_true_eq] at h
    have := key r p h.2.2 h.2.1
    simp only [List.length_cons]
    omega
theorem rw_cod {K : Nat} (hK : K ≤ 200) {l rest : List UInt8} : ∀ (M : List (Int × Nat)) (s a : Nat), okM K s M → l.drop a = codR (s : Int) M ++ rest →
    (rwR l M.length a).1 = 0 ∧ smP s (rwR l M.length a).2.1 = M ∧ (rwR l M.length a).2.2 = a + (codR (s : Int) M).length := by
  intro M
  induction M with
  | nil => intro s a _ _; exact ⟨rfl, rfl, rfl⟩
  | cons p M ih =>
    intro s a h hl
    obtain ⟨h1, h2, h3, h4⟩ := h
    obtain ⟨f, v⟩ := p
    simp only at h1 h2 h3 h4
    obtain ⟨d, rfl⟩ : ∃ d : Nat, f = ((s + d : Nat) : Int) := ⟨(f - s).toNat, by omega⟩
    rw [codR, show (((s + d : Nat) : Int) - (s : Int)).toNat = d from by omega] at hl
    simp only [List.append_assoc] at hl
    have e1 := uvR_at (k := a) (v := d) (by omega) hl
    have hl2 := drop_len hl rfl
    have e2 := uvR_at (k := a + (vry d).length) h3 hl2
    have hl3 := drop_len hl2 rfl
    have e3 := rw_ok (k := M.length) e1 e2
    obtain ⟨g1, g2, g3⟩ := ih (s + d) (a + (vry d).length + (vry v).length) (by have h5 := h4; rwa [Int.toNat_natCast] at h5) hl3
    rw [List.length_cons, e3]
    refine ⟨g1, ?_, ?_⟩
    · rw [smP]
      simp only
      rw [show s + min d 200 = s + d from by omega, g2]
    · rw [g3, codR, show (((s + d : Nat) : Int) - (s : Int)).toNat = d from by omega]
      simp only [List.length_append]
      omega
theorem dec_enc {L : List (Int × Nat)} {K : Nat} {rest : List UInt8} (h : fnB L (K : Int) = true) (hf : ∀ q ∈ L, fitR q) (hK : 1 ≤ K ∧ K ≤ 200) (hl : (enB L ++ rest).length ≤ 200000) :
    dcE (enB L ++ rest) 0 (K : Int) = 0 ∧ dcL (enB L ++ rest) 0 (K : Int) = L ∧ (dcW (enB L ++ rest) 0).2.2 = (enB L).length := by
  obtain ⟨hl0, hlK⟩ := fn_len2 h
  have hd0 : (enB L ++ rest).drop 0 = vry L.length ++ (codR 0 L ++ rest) := by rw [List.drop_zero, enB, List.append_assoc]
  have e1 := uvR_at (k := 0) (v := L.length) (by omega) hd0
  rw [show ((0 : Nat) : Int) = 0 from rfl] at e1
  have hl2 := drop_len hd0 rfl
  rw [Nat.zero_add] at hl2
  obtain ⟨g1, g2, g3⟩ := rw_cod hK.2 L 0 (vry L.length).length (okM_fn h hf) hl2
  have hck : ckB (enB L ++ rest).length 0 = true := by simp only [ckB, Bool.and_eq_true, decide_eq_true_eq]; omega
  have hue : uvE (enB L ++ rest) 0 K = 0 := by
    unfold uvE
    rw [if_pos hck, e1]
    simp
    omega
  have hdw : dcW (enB L ++ rest) 0 = rwR (enB L ++ rest) L.length (vry L.length).length := by
    rw [dcW, e1]; simp
  have hE : dcE (enB L ++ rest) 0 (K : Int) = 0 := by
    unfold dcE
    rw [if_pos hck, if_pos (by omega), Int.toNat_natCast, hue, hdw, g1, g2, h]
    simp
  refine ⟨hE, by rw [dcL, if_pos hE, hdw, g2], by rw [hdw, g3, enB, List.length_append]; rfl⟩
/-- The bytes of pairs. -/
def rwB : List (Nat × Nat) → List UInt8
  | [] => []
  | p :: r => vry p.1 ++ (vry p.2 ++ rwB r)
theorem rw_take {l : List UInt8} : ∀ (k a : Nat), a ≤ l.length → (rwR l k a).1 = 0 → a ≤ (rwR l k a).2.2 ∧ (rwR l k a).2.2 ≤ l.length ∧ (rwR l k a).2.1.length = k ∧ l.take (rwR l k a).2.2 = l.take a ++ rwB (rwR l k a).2.1 := by
  intro k
  induction k with
  | zero => intro a ha _; exact ⟨Nat.le_refl _, ha, rfl, by simp [rwR, rwB]⟩
  | succ k ih =>
    intro a ha h
    by_cases h1 : (uvR l (a : Int)).1 = 0
    rotate_left
    · rw [rw_bad1 h1] at h; exact absurd h h1
    obtain ⟨u, hu⟩ : ∃ u, (uvR l (a : Int)).2.2 = u := ⟨_, rfl⟩
    obtain ⟨x, hx⟩ : ∃ x, (uvR l (a : Int)).2.1 = x := ⟨_, rfl⟩
    by_cases h2 : (uvR l ((a + u : Nat) : Int)).1 = 0
    rotate_left
    · rw [rw_bad2 h1 hu h2] at h; exact absurd h h2
    obtain ⟨u2, hu2⟩ : ∃ y, (uvR l ((a + u : Nat) : Int)).2.2 = y := ⟨_, rfl⟩
    obtain ⟨v, hv⟩ : ∃ x, (uvR l ((a + u : Nat) : Int)).2.1 = x := ⟨_, rfl⟩
    have e1 : uvR l (a : Int) = (0, x, u) := by rw [← h1, ← hx, ← hu]
    have e2 : uvR l ((a + u : Nat) : Int) = (0, v, u2) := by rw [← h2, ← hv, ← hu2]
    have e3 := rw_ok (k := k) e1 e2
    rw [e3] at h ⊢
    simp only at h ⊢
    obtain ⟨_, _, b3, b4⟩ := uvR_le h1
    obtain ⟨_, _, c3, c4⟩ := uvR_le h2
    rw [hu, Int.toNat_natCast] at b3 b4
    rw [hx] at b4
    rw [hu2, Int.toNat_natCast] at c3 c4
    rw [hv] at c4
    obtain ⟨g1, g2, g3, g4⟩ := ih (a + u + u2) (by omega) h
    refine ⟨by omega, g2, by rw [List.length_cons, g3], ?_⟩
    rw [g4, rwB, List.take_add, List.take_add, b4, c4]
    simp
theorem rwB_cod {K : Nat} (hK : K ≤ 200) (r : List (Nat × Nat)) : ∀ (s v : Nat), frB ((s : Int), v) (smP s r) (K : Int) = true → codR (s : Int) (smP s r) = rwB r := by
  induction r with
  | nil => intro s v _; rfl
  | cons p r ih =>
    intro s v h
    rw [smP, frB] at h
    simp only [Bool.and_eq_true, decide_eq_true_eq] at h
    rw [smP, codR, rwB]
    simp only
    rw [ih _ _ h.2, show (((s + min p.1 200 : Nat) : Int) - (s : Int)).toNat = p.1 from by have := h.1.1; omega]
theorem enc_dec {l : List UInt8} {K : Nat} (h : dcE l 0 (K : Int) = 0) : ckT (dcL l 0 (K : Int)) (K : Int) = 0 ∧ 1 ≤ (dcW l 0).2.2 ∧ (dcW l 0).2.2 ≤ l.length ∧ ecL (dcL l 0 (K : Int)) (K : Int) = l.take (dcW l 0).2.2 := by
  obtain ⟨h1, h2, h3, h4, h5⟩ := dc_ok0 h
  rw [Int.toNat_natCast] at h3
  obtain ⟨_, z2, z3⟩ := uv_zero h3
  obtain ⟨_, b2, b3, b4⟩ := uvR_le z2
  rw [show (0 : Int).toNat = 0 from rfl, Nat.zero_add] at b3
  rw [show (0 : Int).toNat = 0 from rfl, List.drop_zero] at b4
  have hL : dcL l 0 (K : Int) = smP 0 (dcW l 0).2.1 := by rw [dcL, if_pos h]
  have hdw : dcW l 0 = rwR l (uvR l 0).2.1 (uvR l 0).2.2 := by rw [dcW]; simp
  rw [hdw] at h4
  obtain ⟨g1, g2, g3, g4⟩ := rw_take _ _ b3 h4
  rw [hdw] at h5
  have hck : ckT (dcL l 0 (K : Int)) (K : Int) = 0 := by rw [hL, hdw]; exact ck_of h5 h2
  refine ⟨hck, by rw [hdw]; omega, by rw [hdw]; exact g2, ?_⟩
  rw [ecL, if_pos hck, hL, hdw, enB, smP_len, g3, g4, b4]
  congr 1
  generalize (rwR l (uvR l 0).2.1 (uvR l 0).2.2).2.1 = r at h5 ⊢
  rcases r with _ | ⟨p, r⟩
  · rfl
  · rw [smP, fnB_ref] at h5
    simp only [Bool.and_eq_true, beq_iff_eq, decide_eq_true_eq] at h5
    have e0 : p.1 = 0 := by have := h5.1; omega
    rw [smP, codR, rwB]
    simp only
    rw [rwB_cod (by omega) r _ _ h5.2.2, e0]
    simp

end Go.Proofs.Ytibkimmagiijnaa
