/- What the reference reads of operands, and that Decode reads the same. Plain Lean, no program. -/
import Derived.Test.YtkhdeoihjnpnaaaOpsR1
import Derived.Test.YtkhdeoihjnpnaaaOps9
namespace Go.Proofs.Ytkhdeoihjnpnaaa
open Go.RowKit Wire
set_option linter.unusedVariables false

/-- An operand of some kind, as the reference reads it; whether it fits. -/
def rdv (l : List UInt8) (k : UInt8) (p : Nat) : Int := if sgR (k.toNat : Int) then hlf (uvR l (p : Int)).2.1 else (((uvR l (p : Int)).2.1 % 1000 : Nat) : Int)
def rdg (l : List UInt8) (k : UInt8) (p : Nat) : Bool := (sgR (k.toNat : Int) || decide ((uvR l (p : Int)).2.1 < 1000)) && ftR (k.toNat : Int) (rdv l k p)
/-- The operands: an error, the numbers, where they end, whether all fit. -/
def rdS (l : List UInt8) : List UInt8 → Nat → Int × List Int × Nat × Bool
  | [], p => (0, [], p, true)
  | k :: ks, p =>
    if k.toNat = 45 then ((rdS l ks p).1, 0 :: (rdS l ks p).2.1, (rdS l ks p).2.2)
    else if (uvR l (p : Int)).1 ≠ 0 then ((uvR l (p : Int)).1, [], p, true)
    else ((rdS l ks (p + (uvR l (p : Int)).2.2)).1, rdv l k p :: (rdS l ks (p + (uvR l (p : Int)).2.2)).2.1, (rdS l ks (p + (uvR l (p : Int)).2.2)).2.2.1, rdg l k p && (rdS l ks (p + (uvR l (p : Int)).2.2)).2.2.2)
theorem rdS_no {l : List UInt8} {k : UInt8} {ks : List UInt8} {p : Nat} (h : k.toNat = 45) : rdS l (k :: ks) p = ((rdS l ks p).1, 0 :: (rdS l ks p).2.1, (rdS l ks p).2.2) := by rw [rdS, if_pos h]
theorem rdS_bad {l : List UInt8} {k : UInt8} {ks : List UInt8} {p : Nat} (h : k.toNat ≠ 45) (he : (uvR l (p : Int)).1 ≠ 0) : rdS l (k :: ks) p = ((uvR l (p : Int)).1, [], p, true) := by rw [rdS, if_neg h, if_pos he]
theorem rdS_ok {l : List UInt8} {k : UInt8} {ks : List UInt8} {p : Nat} (h : k.toNat ≠ 45) (he : (uvR l (p : Int)).1 = 0) : rdS l (k :: ks) p = ((rdS l ks (p + (uvR l (p : Int)).2.2)).1, rdv l k p :: (rdS l ks (p + (uvR l (p : Int)).2.2)).2.1, (rdS l ks (p + (uvR l (p : Int)).2.2)).2.2.1, rdg l k p && (rdS l ks (p + (uvR l (p : Int)).2.2)).2.2.2) := by rw [rdS, if_neg h, if_neg (by simpa using he)]
/-- What the reference answers. -/
def rrS (l : List UInt8) (a : Nat) : Int × List Int × Nat × Bool := rdS l (shR ((l.getD a 0).toNat : Int)).data.toList (a + 1)
def rrE (l : List UInt8) (a : Nat) : Int := if a = l.length then 24 else if (shR ((l.getD a 0).toNat : Int)).size ≠ 3 then 12 else if (rrS l a).1 ≠ 0 then (rrS l a).1 else if (rrS l a).2.2.2 = false then 12 else 0
/-- The kind of an operand on both sides. -/
def kindM : List (Int × Int × Nat) := [(0, 15, 119), (0, 15, 114), ((-1), 15, 103), ((-1), 15, 101), ((-9223372036854775808), 9223372036854775807, 110), (0, 31, 116), (0, 31, 99), (0, 1, 98), (0, 7, 102), (0, 199, 105)]
def mtU (u : Use) (k : UInt8) : Bool := kindM.any fun t => decide (t.1 = u.1) && (decide (t.2.1 = u.2.1) && decide (t.2.2 = k.toNat))
def mtL : Nat → List Use → List UInt8 → Bool
  | n + 1, u :: us, k :: ks => mtU u k && mtL n us ks
  | 0, us, ks => decide (us.length = ks.length) && (us.all (fun u => decide (u.1 = 0) && decide (u.2.1 = 0)) && ks.all fun k => decide (k.toNat = 45))
  | _, _, _ => false
theorem shp_mt : ∀ op, op < 256 → (if (shp op).2 < 0 then decide ((shR (op : Int)).size ≠ 3) else decide ((shR (op : Int)).size = 3) && (decide ((shp op).1.length = 3) && (decide ((shp op).2.toNat ≤ 3) && mtL (shp op).2.toNat (shp op).1 (shR (op : Int)).data.toList))) = true := by
  have h : (List.range 256).all (fun op => (if (shp op).2 < 0 then decide ((shR (op : Int)).size ≠ 3) else decide ((shR (op : Int)).size = 3) && (decide ((shp op).1.length = 3) && (decide ((shp op).2.toNat ≤ 3) && mtL (shp op).2.toNat (shp op).1 (shR (op : Int)).data.toList)))) = true := by decide +kernel
  intro op hop
  exact List.all_eq_true.1 h op (List.mem_range.2 hop)
theorem hlf_rng {m : Nat} (h : m < 18446744073709551616) : -9223372036854775808 ≤ hlf m ∧ hlf m ≤ 9223372036854775807 := by
  unfold hlf
  split <;> omega
theorem mt_dv {u : Use} {k : UInt8} {l : List UInt8} {p : Nat} (h : mtU u k = true) (he : (uvR l (p : Int)).1 = 0) (hu : uvN l (p : Int) 18446744073709551615 = (uvR l (p : Int)).2.1) : k.toNat ≠ 45 ∧ rdg l k p = fitU u (dvN u l p) ∧ (rdg l k p = true → rdv l k p = dvN u l p) := by
  have hm := (uvR_le he).1
  unfold mtU at h
  obtain ⟨t, ht, h2⟩ := List.any_eq_true.1 h
  simp only [Bool.and_eq_true, decide_eq_true_eq] at h2
  obtain ⟨h3, h4, h5⟩ := h2
  have hr := hlf_rng hm
  unfold rdg rdv fitU dvN
  rw [hu]
  generalize (uvR l (p : Int)).2.1 = m at *
  simp only [kindM, List.mem_cons, List.mem_nil_iff, or_false] at ht
  rcases ht with rfl | rfl | rfl | rfl | rfl | rfl | rfl | rfl | rfl | rfl <;> (simp only at h3 h4 h5; rw [← h3, ← h4, ← h5]; refine ⟨by omega, ?_, ?_⟩ <;> simp [sgR, ftR])
  all_goals first | omega | (rw [Bool.eq_iff_iff]; simp only [Bool.and_eq_true, decide_eq_true_eq]; omega)
theorem rdS_all {l : List UInt8} : ∀ (ks : List UInt8) (p : Nat), (ks.all fun k => decide (k.toNat = 45)) = true → rdS l ks p = (0, List.replicate ks.length 0, p, true)
  | [], p, _ => rfl
  | k :: ks, p, h => by
    simp only [List.all_cons, Bool.and_eq_true, decide_eq_true_eq] at h
    rw [rdS_no h.1, rdS_all ks p h.2]
    rfl
theorem fit_all : ∀ (us : List Use), (us.all (fun u => decide (u.1 = 0) && decide (u.2.1 = 0))) = true → fitL us (List.replicate us.length 0) = true
  | [], _ => rfl
  | u :: us, h => by
    simp only [List.all_cons, Bool.and_eq_true, decide_eq_true_eq] at h
    have := fit_all us h.2
    simp only [List.length_cons, List.replicate_succ]
    show (fitU u 0 && fitL us (List.replicate us.length 0)) = true
    rw [this, fitU, h.1.1, h.1.2]; rfl
theorem dcL_len : ∀ (n : Nat) (us : List Use) (l : List UInt8) (p : Nat), n ≤ us.length → (dcL n us l p).1 = 0 → (dcL n us l p).2.1.length = n
  | 0, us, l, p, _, _ => by rw [dcL_zero]; rfl
  | n + 1, [], l, p, h, _ => by simp at h
  | n + 1, u :: us, l, p, h, h0 => by
    by_cases he : uvE l (p : Int) 18446744073709551615 = 0
    · rw [dcL_ok he] at h0 ⊢
      simp only [List.length_cons]
      rw [dcL_len n us l _ (by simpa using h) h0]
    · exact absurd ((dcL_bad he).symm.trans h0) he
theorem rd_same {l : List UInt8} (hl : l.length ≤ 200000) : ∀ (n : Nat) (us : List Use) (ks : List UInt8) (p : Nat), mtL n us ks = true → p ≤ l.length →
    (dcL n us l p).1 = (rdS l ks p).1 ∧ ((rdS l ks p).1 = 0 → (dcL n us l p).2.2 = (rdS l ks p).2.2.1 ∧ (rdS l ks p).2.2.2 = fitL us ((dcL n us l p).2.1 ++ List.replicate (us.length - n) 0) ∧ ((rdS l ks p).2.2.2 = true → (rdS l ks p).2.1 = (dcL n us l p).2.1 ++ List.replicate (us.length - n) 0))
  | 0, us, ks, p, hm, hp => by
    unfold mtL at hm
    simp only [Bool.and_eq_true, decide_eq_true_eq] at hm
    rw [dcL_zero, rdS_all ks p hm.2.2]
    refine ⟨rfl, fun _ => ⟨rfl, ?_, fun _ => ?_⟩⟩
    · simp only [List.nil_append, Nat.sub_zero]
      exact (fit_all us hm.2.1).symm
    · simp [hm.1]
  | n + 1, [], ks, p, hm, hp => by simp [mtL] at hm
  | n + 1, u :: us, [], p, hm, hp => by simp [mtL] at hm
  | n + 1, u :: us, k :: ks, p, hm, hp => by
    simp only [mtL, Bool.and_eq_true] at hm
    have hck : ckB l.length (p : Int) = true := ck_yes hp hl
    by_cases he : (uvR l (p : Int)).1 = 0
    · have hv := (uvR_le he).1
      have hE : uvE l (p : Int) 18446744073709551615 = 0 := by unfold uvE; rw [if_pos hck, if_neg (by simpa using he), if_neg (by omega)]
      have hu := (uv_ok none 0 0 hE).1
      obtain ⟨h1, h2, h3⟩ := mt_dv (p := p) hm.1 he hu
      have hp2 : p + (uvR l (p : Int)).2.2 ≤ l.length := by have := (uvR_le he).2.2.1; simpa using this
      obtain ⟨i1, i2⟩ := rd_same hl n us ks _ hm.2 hp2
      rw [dcL_ok hE, rdS_ok h1 he]
      refine ⟨i1, fun h0 => ?_⟩
      obtain ⟨j1, j2, j3⟩ := i2 h0
      have e : (u :: us).length - (n + 1) = us.length - n := by simp
      rw [e]
      refine ⟨j1, ?_, fun hf => ?_⟩
      · show (rdg l k p && _) = (fitU u (dvN u l p) && _)
        rw [h2]
        exact congrArg _ j2
      · simp only [Bool.and_eq_true] at hf
        show rdv l k p :: _ = dvN u l p :: _
        rw [h3 hf.1]
        exact congrArg _ (j3 hf.2)
    · have hk : k.toNat ≠ 45 := by
        have h := hm.1
        unfold mtU at h
        obtain ⟨t, ht, h2⟩ := List.any_eq_true.1 h
        simp only [Bool.and_eq_true, decide_eq_true_eq] at h2
        rw [← h2.2.2]
        simp only [kindM, List.mem_cons, List.mem_nil_iff, or_false] at ht
        rcases ht with rfl | rfl | rfl | rfl | rfl | rfl | rfl | rfl | rfl | rfl <;> decide
      have hE : uvE l (p : Int) 18446744073709551615 = (uvR l (p : Int)).1 := by unfold uvE; rw [if_pos hck, if_pos (by simpa using he)]
      have h1 : (dcL (n + 1) (u :: us) l p).1 = (uvR l (p : Int)).1 := by rw [dcL_bad (by rw [hE]; exact he), hE]
      have h2 : (rdS l (k :: ks) p).1 = (uvR l (p : Int)).1 := by rw [rdS_bad hk he]
      refine ⟨h1.trans h2.symm, fun h0 => absurd (h2.symm.trans h0) he⟩
theorem pad_3 {d : List Int} {n : Nat} (h : d.length = n) (hn : n ≤ 3) : [padI d 0, padI d 1, padI d 2] = d ++ List.replicate (3 - n) 0 := by
  rcases d with _ | ⟨a, _ | ⟨b, _ | ⟨c, _ | ⟨e, d⟩⟩⟩⟩
  · subst h; rfl
  · subst h; rfl
  · subst h; rfl
  · subst h; rfl
  · simp at h; omega
theorem dec_same {l : List UInt8} {a : Nat} (hl : l.length ≤ 200000) (ha : a ≤ l.length) : dcE l (a : Int) = rrE l a ∧ (rrE l a = 0 → (dcD l a).2.2 = (rrS l a).2.2.1 ∧ (rrS l a).2.1 = [padI (dcD l a).2.1 0, padI (dcD l a).2.1 1, padI (dcD l a).2.1 2]) := by
  have hck : ckB l.length (a : Int) = true := ck_yes ha hl
  have hop : (l.getD a 0).toNat < 256 := (l.getD a 0).toNat_lt
  unfold dcE rrE
  rw [if_neg (by rw [hck]; decide), Int.toNat_natCast]
  by_cases h1 : a = l.length
  · rw [if_pos h1, if_pos h1]
    exact ⟨rfl, fun h => absurd h (by decide)⟩
  rw [if_neg h1, if_neg h1]
  have hmt := shp_mt _ hop
  by_cases h2 : (shp (l.getD a 0).toNat).2 < 0
  · rw [if_pos h2] at hmt
    rw [if_pos h2, if_pos (of_decide_eq_true hmt)]
    exact ⟨rfl, fun h => absurd h (by decide)⟩
  rw [if_neg h2] at hmt
  simp only [Bool.and_eq_true, decide_eq_true_eq] at hmt
  obtain ⟨m1, m2, m3, m4⟩ := hmt
  have m1' : ¬ ((shR ((l.getD a 0).toNat : Int)).size ≠ 3) := by rw [m1]; decide
  rw [if_neg h2, if_neg m1']
  have hs := rd_same hl _ _ _ (a + 1) m4 (by omega)
  have e1 : dcL (shp (l.getD a 0).toNat).2.toNat (shp (l.getD a 0).toNat).1 l (a + 1) = dcD l a := rfl
  have e2 : rdS l (shR ((l.getD a 0).toNat : Int)).data.toList (a + 1) = rrS l a := rfl
  rw [e1, e2] at hs
  obtain ⟨s1, s2⟩ := hs
  rw [s1]
  by_cases h3 : (rrS l a).1 ≠ 0
  · rw [if_pos h3, if_pos h3]
    exact ⟨rfl, fun h => absurd h h3⟩
  rw [if_neg h3, if_neg h3]
  have h0 : (rrS l a).1 = 0 := by simpa using h3
  obtain ⟨j1, j2, j3⟩ := s2 h0
  have hlen : (dcD l a).2.1.length = (shp (l.getD a 0).toNat).2.toNat := dcL_len _ _ _ _ (by rw [m2]; exact m3) (by rw [e1, s1, h0])
  have hp3 := pad_3 hlen m3
  rw [m2, ← hp3] at j2 j3
  have hfit : ckI (l.getD a 0).toNat (padI (dcD l a).2.1 0) (padI (dcD l a).2.1 1) (padI (dcD l a).2.1 2) = if (rrS l a).2.2.2 = true then 0 else 8 := by
    unfold ckI
    rw [if_neg h2, j2]
  rw [hfit]
  by_cases h4 : (rrS l a).2.2.2 = true
  · rw [if_pos h4, if_pos rfl, if_neg (by rw [h4]; decide)]
    exact ⟨rfl, fun _ => ⟨j1, j3 h4⟩⟩
  · rw [if_neg h4, if_neg (by decide), if_pos (by simpa using h4)]
    exact ⟨rfl, fun h => absurd h (by decide)⟩

end Go.Proofs.Ytkhdeoihjnpnaaa
