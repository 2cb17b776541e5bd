/- Contracts and laws of a chapter that its statement of names leans on. Each states its conditions. -/
import Derived.Test.YtldaijkcmnnjpaaScr5
namespace Go.Proofs.Ytldaijkcmnnjpaa
open Go.RowKit Wire
set_option linter.unusedVariables false
theorem vry_inj {a b : Nat} {x y : List UInt8} (ha : a < 18446744073709551616) (hb : b < 18446744073709551616) (h : vry a ++ x = vry b ++ y) : a = b ∧ x = y := by
  have h1 := rd_vry ha x
  rw [h, rd_vry hb y] at h1
  injection h1 with _ h1
  injection h1 with h1 _
  subst h1
  exact ⟨rfl, List.append_cancel_left h⟩
def okU (l : List Int) : Prop := ∀ z ∈ l, 0 ≤ z ∧ z < 18446744073709551616
theorem cod_cons (z : Int) (l : List Int) : cod (z :: l) = vry z.toNat ++ cod l := by simp [cod]
theorem cod_split : ∀ (L L' : List Int) (r : List UInt8), okU L → okU L' → cod L ++ r = cod L' → ∃ L'', L' = L ++ L'' ∧ cod L'' = r := by
  intro L
  induction L with
  | nil => intro L' r _ _ h; exact ⟨L', rfl, h.symm⟩
  | cons z L ih =>
    intro L' r h1 h2 h
    rw [cod_cons, List.append_assoc] at h
    rcases L' with _ | ⟨z', L'⟩
    · have h3 := (vry_len z.toNat).1
      have h4 := congrArg List.length h
      simp only [List.length_append, cod_nil, List.length_nil] at h4
      omega
    · rw [cod_cons] at h
      have hz := h1 z (by simp)
      have hz' := h2 z' (by simp)
      obtain ⟨e1, e2⟩ := vry_inj (by omega) (by omega) h
      obtain ⟨L'', e3, e4⟩ := ih L' r (fun q hq => h1 q (by simp [hq])) (fun q hq => h2 q (by simp [hq])) e2
      have e5 : z = z' := by omega
      exact ⟨L'', by rw [e3, e5]; rfl, e4⟩
theorem cod_inj {L L' : List Int} (h1 : okU L) (h2 : okU L') (h : cod L = cod L') : L = L' := by
  obtain ⟨L'', e1, e2⟩ := cod_split L L' [] h1 h2 (by rw [List.append_nil]; exact h)
  rcases L'' with _ | ⟨z, t⟩
  · rw [e1, List.append_nil]
  · exfalso
    rw [cod_cons] at e2
    have h3 := (vry_len z.toNat).1
    have h4 := congrArg List.length e2
    simp only [List.length_append, List.length_nil] at h4
    omega
theorem okU_full {st sk hp rt : Int} {l : List Int} (h : scB st sk hp rt l = true) : okU (fullL st sk hp rt l) := by
  obtain ⟨h1, h2, h3, h4, h5, h6⟩ := sc_parts h
  intro z hz
  unfold fullL at hz
  rw [List.mem_append] at hz
  rcases hz with hz | hz
  · simp at hz; omega
  · have := h6 z hz; omega
theorem full_inj {st sk hp rt st2 sk2 hp2 rt2 : Int} {l l2 : List Int} (h : fullL st sk hp rt l = fullL st2 sk2 hp2 rt2 l2) : st = st2 ∧ sk = sk2 ∧ hp = hp2 ∧ rt = rt2 ∧ l = l2 := by
  simp only [fullL, List.cons_append, List.nil_append, List.cons.injEq] at h
  obtain ⟨h1, h2, h3, h4, _, h5⟩ := h
  exact ⟨h1, h2, h3, h4, h5⟩

/-! The reading of Decode, step by step: 'none' once something was not read. -/
def gs (l : List UInt8) : Option Nat → Nat → Nat × Option Nat
  | none, _ => (0, none)
  | some k, most => if uvE l (k : Int) most = 0 then ((uvR l (k : Int)).2.1, some (k + (uvR l (k : Int)).2.2)) else (0, none)
def gsJ (l : List UInt8) (s : Option Nat) (most : Nat) : Nat → List Nat × Option Nat
  | 0 => ([], s)
  | j + 1 => ((gsJ l s most j).1 ++ [(gs l (gsJ l s most j).2 most).1], (gs l (gsJ l s most j).2 most).2)
def codN (l : List Nat) : List UInt8 := l.flatMap vry
theorem codN_cod (l : List Nat) : cod (l.map fun (a : Nat) => (a : Int)) = codN l := by
  induction l with
  | nil => rfl
  | cons a l ih => rw [List.map_cons, cod_cons, ih, Int.toNat_natCast]; rfl
theorem codN_append (a b : List Nat) : codN (a ++ b) = codN a ++ codN b := by simp [codN]
theorem codN_snoc (l : List Nat) (a : Nat) : codN (l ++ [a]) = codN l ++ vry a := by simp [codN]
theorem gs_ok {l r : List UInt8} {k v most : Nat} (hl : l.length ≤ 200000) (hk : k ≤ l.length) (hv : v < 18446744073709551616) (h : l.drop k = vry v ++ r) (hm : v ≤ most) : gs l (some k) most = (v, some (k + (vry v).length)) := by
  have hu := uvR_at hv h
  obtain ⟨he, _, _⟩ := uv_mk hk hl hu hm none 0 0
  simp only [gs, he, if_true, hu]
theorem gs_some {l : List UInt8} {s : Option Nat} {k' v most : Nat} (h : gs l s most = (v, some k')) : ∃ k, s = some k ∧ l.drop k = vry v ++ l.drop k' ∧ v ≤ most ∧ k' ≤ l.length ∧ v < 18446744073709551616 := by
  rcases s with _ | k
  · cases h
  · refine ⟨k, rfl, ?_⟩
    simp only [gs] at h
    split at h
    · rename_i he
      obtain ⟨h1, h2, h3⟩ := uv_zero he
      obtain ⟨g1, g2, g3, g4⟩ := uvR_le h2
      injection h with e1 e2
      injection e2 with e2
      rw [Int.toNat_natCast] at g3 g4
      rw [e1] at g4 h3 g1
      refine ⟨?_, h3, by omega, g1⟩
      rw [← g4, ← e2, ← List.drop_drop, List.take_append_drop]
    · cases h
theorem gsJ_len (l : List UInt8) (s : Option Nat) (most j : Nat) : (gsJ l s most j).1.length = j := by
  induction j with
  | zero => rfl
  | succ j ih => simp [gsJ, ih]
theorem gsJ_some {l : List UInt8} {s : Option Nat} {most : Nat} : ∀ (j : Nat) {k' : Nat}, (gsJ l s most j).2 = some k' → ∃ k, s = some k ∧ l.drop k = codN (gsJ l s most j).1 ++ l.drop k' ∧ (∀ v ∈ (gsJ l s most j).1, v ≤ most) ∧ (k ≤ l.length → k' ≤ l.length) := by
  intro j
  induction j with
  | zero => intro k' h; exact ⟨k', h, rfl, by simp [gsJ], fun h => h⟩
  | succ j ih =>
    intro k' h
    have h0 : gs l (gsJ l s most j).2 most = ((gs l (gsJ l s most j).2 most).1, some k') := by rw [← h]; rfl
    obtain ⟨k1, e1, e2, e3, e4, e5⟩ := gs_some h0
    obtain ⟨k, f1, f2, f3, f4⟩ := ih e1
    refine ⟨k, f1, ?_, fun v hv => ?_, fun _ => e4⟩
    · rw [f2, e2]; simp only [gsJ, codN_snoc, List.append_assoc]
    · simp only [gsJ, List.mem_append, List.mem_singleton] at hv
      rcases hv with hv | hv
      · exact f3 v hv
      · rw [hv]; exact e3
theorem gsJ_ok {l r : List UInt8} {k most : Nat} (hl : l.length ≤ 200000) (hm : most < 18446744073709551616) : ∀ (vs : List Nat), l.drop k = codN vs ++ r → (∀ v ∈ vs, v ≤ most) → k ≤ l.length → ∀ j, j ≤ vs.length → gsJ l (some k) most j = (vs.take j, some (k + (codN (vs.take j)).length)) := by
  intro vs h hv hk j
  induction j with
  | zero => intro _; rfl
  | succ j ih =>
    intro hj
    have ih := ih (by omega)
    have hg : vs[j]? = some vs[j] := List.getElem?_eq_getElem (by omega)
    have hd : l.drop (k + (codN (vs.take j)).length) = vry vs[j] ++ (codN (vs.drop (j + 1)) ++ r) := by
      have e0 : vs.drop j = vs[j] :: vs.drop (j + 1) := List.drop_eq_getElem_cons (by omega)
      have e : codN vs = codN (vs.take j) ++ (vry vs[j] ++ codN (vs.drop (j + 1))) := by
        have h9 := codN_append (vs.take j) (vs.drop j)
        rw [List.take_append_drop, e0] at h9
        rw [h9]; rfl
      rw [← List.drop_drop, h, e, List.append_assoc, List.drop_left, List.append_assoc]
    have hvj := hv vs[j] (List.getElem_mem (by omega))
    have hk2 : k + (codN (vs.take j)).length ≤ l.length := by
      have := congrArg List.length hd
      rw [List.length_drop, List.length_append] at this
      have := (vry_len vs[j]).1
      omega
    have hg2 := gs_ok hl hk2 (by omega) hd hvj
    simp only [gsJ, ih, hg2]
    rw [List.take_add_one, hg]
    simp only [Option.toList_some, codN_snoc, List.length_append, Nat.add_assoc]
def r1 (l : List UInt8) := gs l (some 0) 5000
def r2 (l : List UInt8) := gs l (r1 l).2 4096
def r3 (l : List UInt8) := gs l (r2 l).2 16384
def r4 (l : List UInt8) := gs l (r3 l).2 16
def r5 (l : List UInt8) := gs l (r4 l).2 2000
def r6 (l : List UInt8) := gsJ l (r5 l).2 65535 (r5 l).1
def toI (l : List Nat) : List Int := l.map fun (a : Nat) => (a : Int)
def dcB (l : List UInt8) : Bool := decide ((r6 l).2 = some l.length) && scB (r1 l).1 (r2 l).1 (r3 l).1 (r4 l).1 (toI (r6 l).1)
theorem dc_yes {l : List UInt8} (h : dcB l = true) : scB (r1 l).1 (r2 l).1 (r3 l).1 (r4 l).1 (toI (r6 l).1) = true ∧ cod (fullL (r1 l).1 (r2 l).1 (r3 l).1 (r4 l).1 (toI (r6 l).1)) = l := by
  simp only [dcB, Bool.and_eq_true, decide_eq_true_eq] at h
  obtain ⟨h1, h2⟩ := h
  refine ⟨h2, ?_⟩
  obtain ⟨k5, e5, f5, _, _⟩ := gsJ_some (l := l) (s := (r5 l).2) (most := 65535) (r5 l).1 h1
  obtain ⟨k4, e4, f4, _⟩ := gs_some (show gs l (r4 l).2 2000 = ((r5 l).1, some k5) by rw [← e5]; rfl)
  obtain ⟨k3, e3, f3, _⟩ := gs_some (show gs l (r3 l).2 16 = ((r4 l).1, some k4) by rw [← e4]; rfl)
  obtain ⟨k2, e2, f2, _⟩ := gs_some (show gs l (r2 l).2 16384 = ((r3 l).1, some k3) by rw [← e3]; rfl)
  obtain ⟨k1, e1, f1, _⟩ := gs_some (show gs l (r1 l).2 4096 = ((r2 l).1, some k2) by rw [← e2]; rfl)
  obtain ⟨k0, e0, f0, _⟩ := gs_some (show gs l (some 0) 5000 = ((r1 l).1, some k1) by rw [← e1]; rfl)
  injection e0 with e0
  subst e0
  have hlen : (toI (r6 l).1).length = (r5 l).1 := by rw [toI, List.length_map]; exact gsJ_len _ _ _ _
  have hcod : cod (toI (r6 l).1) = codN (r6 l).1 := codN_cod _
  unfold fullL
  rw [cod_append, hcod, hlen]
  simp only [cod_cons, cod_nil, Int.toNat_natCast, List.append_nil, List.append_assoc]
  rw [List.drop_length] at f5
  rw [show codN (r6 l).1 = l.drop k5 from by rw [f5, List.append_nil]; rfl, ← f4, ← f3, ← f2, ← f1, ← f0]
  rfl
theorem dc_no {l : List UInt8} {st sk hp rt : Int} {ps : List Int} (hl : l.length ≤ 200000) (h : scB st sk hp rt ps = true) (hc : cod (fullL st sk hp rt ps) = l) :
    dcB l = true ∧ ((r1 l).1 : Int) = st ∧ ((r2 l).1 : Int) = sk ∧ ((r3 l).1 : Int) = hp ∧ ((r4 l).1 : Int) = rt ∧ toI (r6 l).1 = ps := by
  obtain ⟨h1, h2, h3, h4, h5, h6⟩ := sc_parts h
  obtain ⟨vs, hvs⟩ : ∃ vs : List Nat, toI vs = ps := ⟨ps.map Int.toNat, by
    unfold toI
    rw [List.map_map]
    conv => rhs; rw [← List.map_id ps]
    exact List.map_congr_left fun z hz => by have := h6 z hz; simp; omega⟩
  have hps : ps.length = vs.length := by rw [← hvs]; simp [toI]
  have hvm : ∀ v ∈ vs, v ≤ 65535 := fun v hv => by
    have := h6 (v : Int) (by rw [← hvs]; exact List.mem_map.2 ⟨v, hv, rfl⟩)
    omega
  have hcod : cod ps = codN vs := by rw [← hvs]; exact codN_cod _
  have f0 : l.drop 0 = vry st.toNat ++ (vry sk.toNat ++ (vry hp.toNat ++ (vry rt.toNat ++ (vry vs.length ++ codN vs)))) := by
    rw [← hc]; unfold fullL
    rw [cod_append, hcod, hps]
    simp only [cod_cons, cod_nil, Int.toNat_natCast, List.append_nil, List.append_assoc]
    rfl
  have g1 := gs_ok hl (by omega) (by omega) f0 (show st.toNat ≤ 5000 by omega)
  have f1 := drop_len f0 rfl
  have l1 : 0 + (vry st.toNat).length ≤ l.length := by
    have h7 := congrArg List.length f0
    simp only [List.length_drop, List.length_append] at h7; omega
  have g2 := gs_ok hl l1 (by omega) f1 (show sk.toNat ≤ 4096 by omega)
  have f2 := drop_len f1 rfl
  have l2 : 0 + (vry st.toNat).length + (vry sk.toNat).length ≤ l.length := by
    have h7 := congrArg List.length f1
    simp only [List.length_drop, List.length_append] at h7; omega
  have g3 := gs_ok hl l2 (by omega) f2 (show hp.toNat ≤ 16384 by omega)
  have f3 := drop_len f2 rfl
  have l3 : 0 + (vry st.toNat).length + (vry sk.toNat).length + (vry hp.toNat).length ≤ l.length := by
    have h7 := congrArg List.length f2
    simp only [List.length_drop, List.length_append] at h7; omega
  have g4 := gs_ok hl l3 (by omega) f3 (show rt.toNat ≤ 16 by omega)
  have f4 := drop_len f3 rfl
  have l4 : 0 + (vry st.toNat).length + (vry sk.toNat).length + (vry hp.toNat).length + (vry rt.toNat).length ≤ l.length := by
    have h7 := congrArg List.length f3
    simp only [List.length_drop, List.length_append] at h7; omega
  have g5 := gs_ok hl l4 (by omega) f4 (show vs.length ≤ 2000 by omega)
  have f5 := drop_len f4 rfl
  have l5 : 0 + (vry st.toNat).length + (vry sk.toNat).length + (vry hp.toNat).length + (vry rt.toNat).length + (vry vs.length).length ≤ l.length := by
    have h7 := congrArg List.length f4
    simp only [List.length_drop, List.length_append] at h7; omega
  have g6 := gsJ_ok (r := []) hl (show 65535 < 18446744073709551616 by omega) vs (by rw [List.append_nil]; exact f5) hvm l5 vs.length (Nat.le_refl _)
  rw [List.take_of_length_le (Nat.le_refl _)] at g6
  have e1 := (show r1 l = gs l (some 0) 5000 from rfl).trans g1
  have e2 := (show r2 l = gs l (r1 l).2 4096 from rfl)
  rw [e1] at e2
  replace e2 := e2.trans g2
  have e3 := (show r3 l = gs l (r2 l).2 16384 from rfl)
  rw [e2] at e3
  replace e3 := e3.trans g3
  have e4 := (show r4 l = gs l (r3 l).2 16 from rfl)
  rw [e3] at e4
  replace e4 := e4.trans g4
  have e5 := (show r5 l = gs l (r4 l).2 2000 from rfl)
  rw [e4] at e5
  replace e5 := e5.trans g5
  have e6 := (show r6 l = gsJ l (r5 l).2 65535 (r5 l).1 from rfl)
  rw [e5] at e6
  replace e6 := e6.trans g6
  have hend : 0 + (vry st.toNat).length + (vry sk.toNat).length + (vry hp.toNat).length + (vry rt.toNat).length + (vry vs.length).length + (codN vs).length = l.length := by
    have h7 := congrArg List.length f5
    rw [List.length_drop] at h7
    omega
  have q1 : ((r1 l).1 : Int) = st := by rw [e1]; show ((st.toNat : Nat) : Int) = st; omega
  have q2 : ((r2 l).1 : Int) = sk := by rw [e2]; show ((sk.toNat : Nat) : Int) = sk; omega
  have q3 : ((r3 l).1 : Int) = hp := by rw [e3]; show ((hp.toNat : Nat) : Int) = hp; omega
  have q4 : ((r4 l).1 : Int) = rt := by rw [e4]; show ((rt.toNat : Nat) : Int) = rt; omega
  have q6 : toI (r6 l).1 = ps := by rw [e6]; exact hvs
  refine ⟨?_, q1, q2, q3, q4, q6⟩
  unfold dcB
  rw [q1, q2, q3, q4, q6, h, Bool.and_true, decide_eq_true_eq, e6]
  show some _ = some _
  rw [hend]

end Go.Proofs.Ytldaijkcmnnjpaa
