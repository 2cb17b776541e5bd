/- Plain laws: what the readers read, and that it is what the writers wrote. Each states its conditions. -/
import Derived.Test.YtljpggebpfpelaaHd11
import Derived.Test.YtljpggebpfpelaaWireRdLaw
import Derived.Test.YtljpggebpfpelaaWireBackLaw
import Derived.Test.YtljpggebpfpelaaWireUnsig
namespace Go.Proofs.Ytljpggebpfpelaa
open Go.RowKit Wire
set_option linter.unusedVariables false

/-- A minimal number of at most another one, at a place. -/
def nm (l : List UInt8) (a most : Nat) : Option (Nat × Nat) := if uvE l (a : Int) most = 0 then some ((uvR l (a : Int)).2.1, a + (uvR l (a : Int)).2.2) else none
theorem uvE_ok {l : List UInt8} {a most : Nat} (h : uvE l (a : Int) most = 0) : l.length ≤ 200000 ∧ a ≤ l.length ∧ (uvR l (a : Int)).1 = 0 ∧ (uvR l (a : Int)).2.1 ≤ most := by
  unfold uvE at h
  by_cases hc : ckB l.length (a : Int) = true
  · rw [if_pos hc] at h
    have h1 := ck_ok hc
    by_cases h0 : (uvR l (a : Int)).1 = 0
    · rw [if_neg (by simpa using h0)] at h
      by_cases h2 : most < (uvR l (a : Int)).2.1
      · rw [if_pos h2] at h; omega
      · exact ⟨h1.1, by omega, h0, by omega⟩
    · rw [if_pos h0] at h; exact absurd h h0
  · rw [if_neg hc] at h; omega
theorem nm_ok {l : List UInt8} {a most v e : Nat} (h : nm l a most = some (v, e)) :
    l.length ≤ 200000 ∧ v ≤ most ∧ v < 18446744073709551616 ∧ a < e ∧ e ≤ l.length ∧ l.drop a = vry v ++ l.drop e ∧ e = a + (vry v).length := by
  unfold nm at h
  by_cases hu : uvE l (a : Int) most = 0
  · rw [if_pos hu] at h
    injection h with h
    injection h with h1 h2
    obtain ⟨k1, k2, k3, k4⟩ := uvE_ok hu
    have hr := rd_lt (l := l.drop a) (by simpa [uvR] using k3)
    simp only [uvR, Int.toNat_natCast] at h1 h2 k3 k4
    obtain ⟨r, hr0⟩ : ∃ r, rdV 0 0 (l.drop a) = r := ⟨_, rfl⟩
    rw [hr0] at h1 h2 k3 k4 hr
    obtain ⟨e0, v0, k0⟩ := r
    simp only at h1 h2 k3 k4 hr
    subst h1
    subst h2
    obtain ⟨q1, q2, q3, q4⟩ := hr
    rw [List.length_drop] at q3
    have ql : (vry v0).length = k0 := by rw [← q4, List.length_take, List.length_drop]; omega
    refine ⟨k1, k4, q1, by omega, by omega, ?_, by omega⟩
    rw [← q4, ← List.drop_drop, List.take_append_drop]
  · rw [if_neg hu] at h; cases h
theorem nm_mk {l r : List UInt8} {a most v : Nat} (hl : l.length ≤ 200000) (ha : a ≤ l.length) (hv : v < 18446744073709551616) (hm : v ≤ most) (h : l.drop a = vry v ++ r) : nm l a most = some (v, a + (vry v).length) := by
  have h1 := uvR_at hv h
  have h2 : uvE l (a : Int) most = 0 := by
    unfold uvE
    rw [if_pos (ck_yes ha hl), h1]
    simp
    omega
  unfold nm
  rw [if_pos h2, h1]
theorem nm_most {l : List UInt8} {a most : Nat} (hm : most ≤ 18446744073709551615) : nm l a most = (nm l a 18446744073709551615).bind fun p => if p.1 ≤ most then some p else none := by
  cases h : nm l a 18446744073709551615 with
  | none =>
    cases h2 : nm l a most with
    | none => rfl
    | some p =>
      exfalso
      obtain ⟨v, e⟩ := p
      obtain ⟨k1, k2, k3, k4, k5, k6, k7⟩ := nm_ok h2
      rw [nm_mk k1 (by omega) k3 (by omega) k6] at h
      cases h
  | some p =>
    obtain ⟨v, e⟩ := p
    obtain ⟨k1, k2, k3, k4, k5, k6, k7⟩ := nm_ok h
    show nm l a most = if v ≤ most then some (v, e) else none
    by_cases hv : v ≤ most
    · rw [if_pos hv, nm_mk k1 (by omega) k3 hv k6, ← k7]
    · rw [if_neg hv]
      cases h2 : nm l a most with
      | none => rfl
      | some p =>
        exfalso
        obtain ⟨v', e'⟩ := p
        obtain ⟨j1, j2, j3, j4, j5, j6, j7⟩ := nm_ok h2
        rw [nm_mk k1 (by omega) j3 (by omega) j6] at h
        injection h with h
        injection h with h _
        omega
theorem drop_app_ {α : Type} {l a b : List α} {i e : Nat} (h : l.drop i = a ++ l.drop e) (h2 : l.drop e = b) : l.drop i = a ++ b := by rw [h, h2]

/-- An end that some bytes are. -/
def red (l : List UInt8) : Option (Nat × Int × Int) :=
  match l with
  | [] => none
  | x :: _ => (nm l 1 18446744073709551615).bind fun p => (nm l p.2 5000).bind fun q => if q.2 = l.length ∧ enB x.toNat (hlf p.1) (q.1 : Int) = true then some (x.toNat, hlf p.1, (q.1 : Int)) else none
theorem red_ok {l : List UInt8} {x : Nat} {f s : Int} (h : red l = some (x, f, s)) : l = endL x f s ∧ enB x f s = true ∧ x < 256 ∧ l.length ≤ 200000 := by
  unfold red at h
  cases l with
  | nil => cases h
  | cons y l =>
    cases h1 : nm (y :: l) 1 18446744073709551615 with
    | none => simp [h1] at h
    | some p =>
      cases h2 : nm (y :: l) p.2 5000 with
      | none => simp [h1, h2] at h
      | some q =>
        simp only [h1, h2, Option.bind_some] at h
        split at h
        · rename_i hc
          injection h with h
          injection h with e1 h
          injection h with e2 e3
          obtain ⟨v, e⟩ := p
          obtain ⟨u, g⟩ := q
          obtain ⟨i1, i2, i3, i4, i5, i6, i7⟩ := nm_ok h1
          obtain ⟨j1, j2, j3, j4, j5, j6, j7⟩ := nm_ok h2
          simp only at e1 e2 e3 hc i6 j6
          subst e1 e2 e3
          refine ⟨?_, hc.2, y.toNat_lt, j1⟩
          rw [hc.1, List.drop_length, List.append_nil] at j6
          rw [j6] at i6
          simp only [List.drop_succ_cons, List.drop_zero] at i6
          simp only [endL, dbl_hlf, Int.toNat_natCast, i6]
          simp
        · cases h
theorem enB_ok {x : Nat} {f s : Int} (h : enB x f s = true) : 2 ≤ x ∧ x ≤ 6 ∧ 0 ≤ s ∧ s ≤ 5000 ∧ -1 ≤ f ∧ f < 16 := by
  unfold enB at h
  simp only [Bool.and_eq_true, decide_eq_true_eq] at h
  obtain ⟨h1, h2, h3⟩ := h
  split at h3 <;> simp only [decide_eq_true_eq] at h3 <;> omega
theorem red_mk {x : Nat} {f s : Int} (h : enB x f s = true) : red (endL x f s) = some (x, f, s) := by
  obtain ⟨h1, h2, h3, h4, h5, h6⟩ := enB_ok h
  have hd := dbl_lt (i := f) (by omega)
  have l1 := vry_len (dbl f)
  have l2 := vry_len s.toNat
  obtain ⟨l, hl⟩ : ∃ l, endL x f s = l := ⟨_, rfl⟩
  have hlen : l.length = 1 + ((vry (dbl f)).length + (vry s.toNat).length) := by rw [← hl]; simp [endL]; omega
  have d1 : l.drop 1 = vry (dbl f) ++ vry s.toNat := by rw [← hl]; simp [endL]
  have d2 : l.drop (1 + (vry (dbl f)).length) = vry s.toNat := drop_len d1 rfl
  have n1 := nm_mk (most := 18446744073709551615) (by omega) (by omega) hd (by omega) d1
  have n2 := nm_mk (l := l) (a := 1 + (vry (dbl f)).length) (v := s.toNat) (most := 5000) (r := []) (by omega) (by omega) (by omega) (by omega) (by rw [d2]; simp)
  have hx : (UInt8.ofNat x).toNat = x := by rw [UInt8.toNat_ofNat']; omega
  rw [hl]
  unfold red
  have hc : l = UInt8.ofNat x :: (vry (dbl f) ++ vry s.toNat) := by rw [← hl]; rfl
  split
  · simp at hlen; omega
  · rename_i y r
    injection hc with c1 c2
    subst c1
    rw [n1, Option.bind_some, n2, Option.bind_some, hx, hlf_dbl (by omega)]
    rw [show ((s.toNat : Nat) : Int) = s from by omega]
    rw [if_pos ⟨by rw [hlen]; omega, h⟩]

/-- A goroutine with an index, at a place. -/
def pHd (l : List UInt8) (g a : Nat) : Option (Rtn × Nat) :=
  if a < l.length then
    (nm l (a + 1) 18446744073709551615).bind fun p1 => (nm l p1.2 512).bind fun p2 => (nm l p2.2 2305843009213693951).bind fun p3 => (nm l p3.2 2305843009213693951).bind fun p4 => (nm l p4.2 18446744073709551615).bind fun p5 =>
      some ((((l[a]?).getD 0).toNat, p1.1, 16777216 * (g + 1) + 8 * p2.1, 8 * p3.1, 8 * p4.1, hlf p5.1), p5.2)
  else none
def pHds (l : List UInt8) : Nat → Nat → Nat → Option (List Rtn × Nat)
  | 0, _, a => some ([], a)
  | k + 1, g, a => (pHd l g a).bind fun p => (pHds l k (g + 1) p.2).bind fun q => some (p.1 :: q.1, q.2)
def rhds (l : List UInt8) : Option (List Rtn × Nat) := (nm l 0 16).bind fun p => pHds l p.1 0 p.2
def rhd (l : List UInt8) : Option (List Rtn) := (rhds l).bind fun q => if q.2 = l.length ∧ hsB q.1 = true then some q.1 else none
theorem hlf_rng {n : Nat} (h : n < 18446744073709551616) : -9223372036854775808 ≤ hlf n ∧ hlf n ≤ 9223372036854775807 := by
  unfold hlf; split <;> omega
theorem pHd_ok {l : List UInt8} {g a e : Nat} {x : Rtn} (hg : g < 1000000) (h : pHd l g a = some (x, e)) : rtOk x ∧ a < e ∧ e ≤ l.length ∧ l.drop a = hdL g x ++ l.drop e := by
  unfold pHd at h
  by_cases ha : a < l.length
  · rw [if_pos ha] at h
    cases h1 : nm l (a + 1) 18446744073709551615 with
    | none => simp [h1] at h
    | some p1 =>
    cases h2 : nm l p1.2 512 with
    | none => simp [h1, h2] at h
    | some p2 =>
    cases h3 : nm l p2.2 2305843009213693951 with
    | none => simp [h1, h2, h3] at h
    | some p3 =>
    cases h4 : nm l p3.2 2305843009213693951 with
    | none => simp [h1, h2, h3, h4] at h
    | some p4 =>
    cases h5 : nm l p4.2 18446744073709551615 with
    | none => simp [h1, h2, h3, h4, h5] at h
    | some p5 =>
    obtain ⟨v1, e1⟩ := p1
    obtain ⟨v2, e2⟩ := p2
    obtain ⟨v3, e3⟩ := p3
    obtain ⟨v4, e4⟩ := p4
    obtain ⟨v5, e5⟩ := p5
    simp only at h2 h3 h4 h5
    simp only [h1, h2, h3, h4, h5, Option.bind_some] at h
    injection h with h
    injection h with hx he
    obtain ⟨a1, a2, a3, a4, a5, a6, a7⟩ := nm_ok h1
    obtain ⟨b1, b2, b3, b4, b5, b6, b7⟩ := nm_ok h2
    obtain ⟨c1, c2, c3, c4, c5, c6, c7⟩ := nm_ok h3
    obtain ⟨d1, d2, d3, d4, d5, d6, d7⟩ := nm_ok h4
    obtain ⟨f1, f2, f3, f4, f5, f6, f7⟩ := nm_ok h5
    subst hx
    subst he
    have hz : l[a]? = some l[a] := List.getElem?_eq_getElem ha
    obtain ⟨y, hy⟩ : ∃ y, l[a] = y := ⟨_, rfl⟩
    rw [hy] at hz
    have hr := hlf_rng f3
    refine ⟨?_, by omega, by omega, ?_⟩
    · have := y.toNat_lt
      rw [hz]
      unfold rtOk
      refine ⟨by simpa using this, ?_, ?_, ?_, ?_, ?_⟩ <;> simp only <;> omega
    · rw [drop_at hz, a6, b6, c6, d6, f6, hz]
      simp only [hdL, Option.getD_some, dbl_hlf, List.cons_append, List.append_assoc, UInt8.ofNat_toNat]
      rw [show (16777216 * (g + 1) + 8 * v2 - 16777216 * (g + 1)) / 8 = v2 from by omega, show 8 * v3 / 8 = v3 from by omega, show 8 * v4 / 8 = v4 from by omega]
  · rw [if_neg ha] at h; cases h
theorem hdB_ok {g st co sp df pn : Nat} {ky : Int} (h : hdB g st co sp df pn ky = true) : 16777216 * (g + 1) ≤ sp ∧ sp ≤ 16777216 * (g + 1) + 4096 ∧ sp % 8 = 0 ∧ df % 8 = 0 ∧ pn % 8 = 0 := by
  unfold hdB at h
  simp only [Bool.and_eq_true, decide_eq_true_eq] at h
  omega
theorem pHd_mk {l r : List UInt8} {g a : Nat} {x : Rtn} (hl : l.length ≤ 200000) (ha : a ≤ l.length) (hx : rtOk x) (hh : hdB g x.1 x.2.1 x.2.2.1 x.2.2.2.1 x.2.2.2.2.1 x.2.2.2.2.2 = true)
    (h : l.drop a = hdL g x ++ r) : pHd l g a = some (x, a + (hdL g x).length) ∧ l.drop (a + (hdL g x).length) = r := by
  obtain ⟨st, co, sp, df, pn, ky⟩ := x
  obtain ⟨x1, x2, x3, x4, x5, x6⟩ := hx
  simp only at x1 x2 x3 x4 x5 x6 hh
  obtain ⟨k1, k2, k3, k4, k5⟩ := hdB_ok hh
  refine ⟨?_, drop_len h rfl⟩
  have hz : l[a]? = some (UInt8.ofNat st) := by
    have := congrArg (fun m => m[0]?) h
    simpa [hdL] using this
  have hal : a < l.length := (List.getElem?_eq_some_iff.1 hz).1
  have hd := dbl_lt (i := ky) x6
  have h1 : l.drop (a + 1) = vry co ++ (vry ((sp - 16777216 * (g + 1)) / 8) ++ (vry (df / 8) ++ (vry (pn / 8) ++ (vry (dbl ky) ++ r)))) := by
    have := congrArg (fun m => m.drop 1) h
    simpa [hdL, List.drop_drop] using this
  have hlen := congrArg List.length h1
  simp only [List.length_drop, List.length_append] at hlen
  have h2 := drop_len h1 rfl
  have h3 := drop_len h2 rfl
  have h4 := drop_len h3 rfl
  have h5 := drop_len h4 rfl
  have q1 := vry_len co
  have q2 := vry_len ((sp - 16777216 * (g + 1)) / 8)
  have q3 := vry_len (df / 8)
  have q4 := vry_len (pn / 8)
  have q5 := vry_len (dbl ky)
  have hw : (hdL g (st, co, sp, df, pn, ky)).length = 1 + ((vry co).length + ((vry ((sp - 16777216 * (g + 1)) / 8)).length + ((vry (df / 8)).length + ((vry (pn / 8)).length + (vry (dbl ky)).length)))) := by
    simp only [hdL, List.length_cons, List.length_append]; omega
  unfold pHd
  rw [if_pos hal, nm_mk hl (by omega) x2 (by omega) h1, Option.bind_some, nm_mk hl (by omega) (by omega) (by omega) h2, Option.bind_some,
    nm_mk hl (by omega) (by omega) (by omega) h3, Option.bind_some, nm_mk hl (by omega) (by omega) (by omega) h4, Option.bind_some, nm_mk hl (by omega) hd (by omega) h5, Option.bind_some, hz, hw]
  have hx1 : (UInt8.ofNat st).toNat = st := by rw [UInt8.toNat_ofNat']; omega
  simp only [Option.getD_some, hx1, hlf_dbl x6]
  rw [show 16777216 * (g + 1) + 8 * ((sp - 16777216 * (g + 1)) / 8) = sp from by omega, show 8 * (df / 8) = df from by omega, show 8 * (pn / 8) = pn from by omega]
  congr 2
  omega
theorem pHds_ok {l : List UInt8} : ∀ {k g a e : Nat} {L : List Rtn}, g + k < 1000000 → a ≤ l.length → pHds l k g a = some (L, e) → L.length = k ∧ (∀ x ∈ L, rtOk x) ∧ a ≤ e ∧ e ≤ l.length ∧ l.drop a = hBy g L ++ l.drop e := by
  intro k
  induction k with
  | zero =>
    intro g a e L hg ha h
    unfold pHds at h
    injection h with h
    injection h with h1 h2
    subst h1 h2
    exact ⟨rfl, by simp, by omega, ha, by simp [hBy]⟩
  | succ k ih =>
    intro g a e L hg ha h
    unfold pHds at h
    cases h1 : pHd l g a with
    | none => simp [h1] at h
    | some p =>
      obtain ⟨x, a1⟩ := p
      cases h2 : pHds l k (g + 1) a1 with
      | none => simp [h1, h2] at h
      | some q =>
        obtain ⟨m, e1⟩ := q
        simp only [h1, h2, Option.bind_some] at h
        injection h with h
        injection h with e2 e3
        subst e2 e3
        obtain ⟨i1, i2, i3, i4⟩ := pHd_ok (by omega) h1
        obtain ⟨j1, j2, j3, j4, j5⟩ := ih (by omega) i3 h2
        refine ⟨by simp [j1], ?_, by omega, j4, ?_⟩
        · intro y hy
          rcases List.mem_cons.1 hy with rfl | hy
          · exact i1
          · exact j2 y hy
        · rw [i4, j5]; simp [hBy]
theorem pHds_mk {l : List UInt8} (hl : l.length ≤ 200000) : ∀ {L : List Rtn} {g a : Nat} {r : List UInt8}, a ≤ l.length → (∀ x ∈ L, rtOk x) → hdsB g L = true → l.drop a = hBy g L ++ r → pHds l L.length g a = some (L, a + (hBy g L).length) := by
  intro L
  induction L with
  | nil => intro g a r ha hx hh h; simp [pHds, hBy]
  | cons x L ih =>
    intro g a r ha hx hh h
    simp only [hdsB, Bool.and_eq_true] at hh
    rw [show hBy g (x :: L) = hdL g x ++ hBy (g + 1) L from rfl, List.append_assoc] at h
    obtain ⟨h1, h2⟩ := pHd_mk hl ha (hx x (by simp)) hh.1 h
    have hle := congrArg List.length h
    simp only [List.length_drop, List.length_append] at hle
    have h6 := (hdL_len g x).1
    have h3 := ih (by omega) (fun y hy => hx y (by simp [hy])) hh.2 h2
    rw [show (x :: L).length = L.length + 1 from rfl]
    unfold pHds
    rw [h1, Option.bind_some, h3, Option.bind_some]
    simp only [hBy, List.length_append]
    congr 2
    omega
theorem rhd_ok {l : List UInt8} {L : List Rtn} (h : rhd l = some L) : l = hsL L ∧ hsB L = true ∧ (∀ x ∈ L, rtOk x) ∧ L.length ≤ 16 ∧ l.length ≤ 200000 := by
  unfold rhd rhds at h
  cases h1 : nm l 0 16 with
  | none => simp [h1] at h
  | some p =>
    obtain ⟨n, a⟩ := p
    obtain ⟨i1, i2, i3, i4, i5, i6, i7⟩ := nm_ok h1
    cases h2 : pHds l n 0 a with
    | none => simp [h1, h2] at h
    | some q =>
      obtain ⟨m, e⟩ := q
      simp only [h1, h2, Option.bind_some] at h
      split at h
      · rename_i hc
        injection h with h
        subst h
        obtain ⟨j1, j2, j3, j4, j5⟩ := pHds_ok (by omega) i5 h2
        refine ⟨?_, hc.2, j2, by omega, i1⟩
        rw [List.drop_zero, j5, hc.1, List.drop_length, List.append_nil] at i6
        rw [i6, hsL, j1]
      · cases h
theorem hsL_len {L : List Rtn} (h : L.length ≤ 16) : 1 ≤ (hsL L).length ∧ (hsL L).length ≤ 830 := by
  have h1 := vry_len L.length
  have h2 := hBy_len L 0
  simp only [hsL, List.length_append]; omega
theorem rhds_mk {L : List Rtn} {r : List UInt8} (hr : (hsL L ++ r).length ≤ 200000) (hx : ∀ x ∈ L, rtOk x) (h : hsB L = true) : rhds (hsL L ++ r) = some (L, (hsL L).length) := by
  obtain ⟨h1, h2, h3⟩ := hsB_n h
  obtain ⟨l, hl⟩ : ∃ l, hsL L ++ r = l := ⟨_, rfl⟩
  rw [hl] at hr
  have d1 : l.drop 0 = vry L.length ++ (hBy 0 L ++ r) := by rw [← hl]; simp [hsL]
  have d2 := drop_len d1 rfl
  have hle := congrArg List.length d1
  simp only [List.length_drop, List.length_append] at hle
  unfold rhds
  rw [hl, nm_mk hr (by omega) (by omega) h2 d1, Option.bind_some]
  simp only
  rw [pHds_mk hr (by omega) hx h3 d2]
  simp [hsL]
theorem rhd_mk {L : List Rtn} (hx : ∀ x ∈ L, rtOk x) (h : hsB L = true) : rhd (hsL L) = some L := by
  have h0 := hsL_len (hsB_n h).2.1
  have := rhds_mk (r := []) (by simp; omega) hx h
  rw [List.append_nil] at this
  unfold rhd
  rw [this, Option.bind_some, if_pos ⟨rfl, h⟩]
theorem rhd_more {l m : List UInt8} {L : List Rtn} (h : rhd l = some L) (hm : m ≠ []) (hl : (l ++ m).length ≤ 200000) : rhd (l ++ m) = none := by
  obtain ⟨h1, h2, h3, h4, h5⟩ := rhd_ok h
  subst h1
  have := rhds_mk hl h3 h2
  unfold rhd
  rw [this, Option.bind_some, if_neg]
  rintro ⟨e, _⟩
  simp only [List.length_append] at e
  exact hm (List.length_eq_zero_iff.1 (by omega))

/-- A list of addresses, of a number of them, at a place. -/
def pAd (l : List UInt8) : Nat → Nat → Option (List Nat × Nat)
  | 0, a => some ([], a)
  | k + 1, a => (nm l a 2305843009213693951).bind fun p => (pAd l k p.2).bind fun q => some (8 * p.1 :: q.1, q.2)
def pCh (l : List UInt8) (a : Nat) : Option (List Nat × Nat) := (nm l a 410).bind fun p => pAd l p.1 p.2
def pChs (l : List UInt8) : Nat → Nat → Option (List (List Nat) × Nat)
  | 0, a => some ([], a)
  | k + 1, a => (pCh l a).bind fun p => (pChs l k p.2).bind fun q => some (p.1 :: q.1, q.2)
def rchs (l : List UInt8) : Option (List (List Nat) × Nat) := (nm l 0 16).bind fun p => pChs l p.1 p.2
def rch (l : List UInt8) : Option (List (List Nat)) := (rchs l).bind fun q => if q.2 = l.length ∧ csB q.1 = true then some q.1 else none
theorem pAd_ok {l : List UInt8} : ∀ {k a e : Nat} {m : List Nat}, a ≤ l.length → pAd l k a = some (m, e) → m.length = k ∧ (∀ x ∈ m, x < 18446744073709551616) ∧ a ≤ e ∧ e ≤ l.length ∧ l.drop a = adL m ++ l.drop e := by
  intro k
  induction k with
  | zero =>
    intro a e m ha h
    unfold pAd at h
    injection h with h
    injection h with h1 h2
    subst h1 h2
    exact ⟨rfl, by simp, by omega, ha, by simp [adL]⟩
  | succ k ih =>
    intro a e m ha h
    unfold pAd at h
    cases h1 : nm l a 2305843009213693951 with
    | none => simp [h1] at h
    | some p =>
      obtain ⟨v, a1⟩ := p
      cases h2 : pAd l k a1 with
      | none => simp [h1, h2] at h
      | some q =>
        obtain ⟨m, e1⟩ := q
        simp only [h1, h2, Option.bind_some] at h
        injection h with h
        injection h with e2 e3
        subst e2 e3
        obtain ⟨i1, i2, i3, i4, i5, i6, i7⟩ := nm_ok h1
        obtain ⟨j1, j2, j3, j4, j5⟩ := ih i5 h2
        refine ⟨by simp [j1], ?_, by omega, j4, ?_⟩
        · intro y hy
          rcases List.mem_cons.1 hy with rfl | hy
          · omega
          · exact j2 y hy
        · rw [i6, j5]; simp [adL, show 8 * v / 8 = v from by omega]
theorem atB_ok {x : Nat} (h : atB x = true) : x < 81920 ∧ x % 8 = 0 := by
  unfold atB at h
  simp only [Bool.and_eq_true, decide_eq_true_eq] at h
  omega
theorem pAd_mk {l : List UInt8} (hl : l.length ≤ 200000) : ∀ {m : List Nat} {a : Nat} {r : List UInt8}, a ≤ l.length → (∀ x ∈ m, atB x = true) → l.drop a = adL m ++ r → pAd l m.length a = some (m, a + (adL m).length) := by
  intro m
  induction m with
  | nil => intro a r ha hx h; simp [pAd, adL]
  | cons x m ih =>
    intro a r ha hx h
    have hb := atB_ok (hx x (by simp))
    rw [show adL (x :: m) = vry (x / 8) ++ adL m from by simp [adL], List.append_assoc] at h
    have hle := congrArg List.length h
    simp only [List.length_drop, List.length_append] at hle
    have h6 := (vry_len (x / 8)).1
    have h3 := ih (a := a + (vry (x / 8)).length) (r := r) (by omega) (fun y hy => hx y (by simp [hy])) (drop_len h rfl)
    rw [show (x :: m).length = m.length + 1 from rfl]
    unfold pAd
    rw [nm_mk hl ha (by omega) (by omega) h, Option.bind_some, h3, Option.bind_some]
    simp only [show adL (x :: m) = vry (x / 8) ++ adL m from by simp [adL], List.length_append, show 8 * (x / 8) = x from by omega]
    congr 2
    omega
theorem pCh_ok {l : List UInt8} {a e : Nat} {m : List Nat} (h : pCh l a = some (m, e)) : m.length ≤ 410 ∧ (∀ x ∈ m, x < 18446744073709551616) ∧ a ≤ e ∧ e ≤ l.length ∧ l.drop a = chL m ++ l.drop e := by
  unfold pCh at h
  cases h1 : nm l a 410 with
  | none => simp [h1] at h
  | some p =>
    obtain ⟨n, a1⟩ := p
    simp only [h1, Option.bind_some] at h
    obtain ⟨i1, i2, i3, i4, i5, i6, i7⟩ := nm_ok h1
    obtain ⟨j1, j2, j3, j4, j5⟩ := pAd_ok i5 h
    refine ⟨by omega, j2, by omega, j4, ?_⟩
    rw [i6, j5, chL, j1, List.append_assoc]
theorem chB_ok {m : List Nat} (h : chB m = true) : m.length ≤ 410 ∧ ∀ x ∈ m, atB x = true := by
  unfold chB at h
  simp only [Bool.and_eq_true, decide_eq_true_eq, List.all_eq_true] at h
  exact h
theorem pCh_mk {l r : List UInt8} {a : Nat} {m : List Nat} (hl : l.length ≤ 200000) (ha : a ≤ l.length) (hh : chB m = true) (h : l.drop a = chL m ++ r) : pCh l a = some (m, a + (chL m).length) ∧ l.drop (a + (chL m).length) = r := by
  obtain ⟨h1, h2⟩ := chB_ok hh
  refine ⟨?_, drop_len h rfl⟩
  rw [chL, List.append_assoc] at h
  have hle := congrArg List.length h
  simp only [List.length_drop, List.length_append] at hle
  unfold pCh
  rw [nm_mk hl ha (by omega) h1 h, Option.bind_some]
  simp only
  rw [pAd_mk hl (by omega) h2 (drop_len h rfl)]
  simp only [chL, List.length_append]
  congr 2
  omega
theorem pChs_ok {l : List UInt8} : ∀ {k a e : Nat} {LL : List (List Nat)}, a ≤ l.length → pChs l k a = some (LL, e) → LL.length = k ∧ (∀ m ∈ LL, ∀ x ∈ m, x < 18446744073709551616) ∧ a ≤ e ∧ e ≤ l.length ∧ l.drop a = cfL LL ++ l.drop e := by
  intro k
  induction k with
  | zero =>
    intro a e LL ha h
    unfold pChs at h
    injection h with h
    injection h with h1 h2
    subst h1 h2
    exact ⟨rfl, by simp, by omega, ha, by simp [cfL]⟩
  | succ k ih =>
    intro a e LL ha h
    unfold pChs at h
    cases h1 : pCh l a with
    | none => simp [h1] at h
    | some p =>
      obtain ⟨x, a1⟩ := p
      cases h2 : pChs l k a1 with
      | none => simp [h1, h2] at h
      | some q =>
        obtain ⟨m, e1⟩ := q
        simp only [h1, h2, Option.bind_some] at h
        injection h with h
        injection h with e2 e3
        subst e2 e3
        obtain ⟨i1, i2, i3, i4, i5⟩ := pCh_ok h1
        obtain ⟨j1, j2, j3, j4, j5⟩ := ih i4 h2
        refine ⟨by simp [j1], ?_, by omega, j4, ?_⟩
        · intro y hy
          rcases List.mem_cons.1 hy with rfl | hy
          · exact i2
          · exact j2 y hy
        · rw [i5, j5]; simp [cfL]
theorem pChs_mk {l : List UInt8} (hl : l.length ≤ 200000) : ∀ {LL : List (List Nat)} {a : Nat} {r : List UInt8}, a ≤ l.length → (∀ m ∈ LL, chB m = true) → l.drop a = cfL LL ++ r → pChs l LL.length a = some (LL, a + (cfL LL).length) := by
  intro LL
  induction LL with
  | nil => intro a r ha hx h; simp [pChs, cfL]
  | cons x LL ih =>
    intro a r ha hx h
    rw [show cfL (x :: LL) = chL x ++ cfL LL from by simp [cfL], List.append_assoc] at h
    obtain ⟨h1, h2⟩ := pCh_mk hl ha (hx x (by simp)) h
    have hle := congrArg List.length h
    simp only [List.length_drop, List.length_append] at hle
    have h6 : 1 ≤ (chL x).length := by have := (vry_len x.length).1; simp only [chL, List.length_append]; omega
    have h3 := ih (by omega) (fun y hy => hx y (by simp [hy])) h2
    rw [show (x :: LL).length = LL.length + 1 from rfl]
    unfold pChs
    rw [h1, Option.bind_some, h3, Option.bind_some]
    simp only [show cfL (x :: LL) = chL x ++ cfL LL from by simp [cfL], List.length_append]
    congr 2
    omega
theorem rch_ok {l : List UInt8} {LL : List (List Nat)} (h : rch l = some LL) : l = csL LL ∧ csB LL = true ∧ (∀ m ∈ LL, ∀ x ∈ m, x < 18446744073709551616) ∧ l.length ≤ 200000 := by
  unfold rch rchs at h
  cases h1 : nm l 0 16 with
  | none => simp [h1] at h
  | some p =>
    obtain ⟨n, a⟩ := p
    obtain ⟨i1, i2, i3, i4, i5, i6, i7⟩ := nm_ok h1
    cases h2 : pChs l n a with
    | none => simp [h1, h2] at h
    | some q =>
      obtain ⟨m, e⟩ := q
      simp only [h1, h2, Option.bind_some] at h
      split at h
      · rename_i hc
        injection h with h
        subst h
        obtain ⟨j1, j2, j3, j4, j5⟩ := pChs_ok i5 h2
        refine ⟨?_, hc.2, j2, i1⟩
        rw [List.drop_zero, j5, hc.1, List.drop_length, List.append_nil] at i6
        rw [i6, csL, j1]
      · cases h
theorem csB_all {LL : List (List Nat)} (h : csB LL = true) : ∀ m ∈ LL, chB m = true := by
  unfold csB at h
  simp only [Bool.and_eq_true, List.all_eq_true] at h
  exact h.1
theorem rchs_mk {LL : List (List Nat)} {r : List UInt8} (hr : (csL LL ++ r).length ≤ 200000) (h : csB LL = true) : rchs (csL LL ++ r) = some (LL, (csL LL).length) := by
  obtain ⟨h1, h2, h3⟩ := csB_n h
  obtain ⟨l, hl⟩ : ∃ l, csL LL ++ r = l := ⟨_, rfl⟩
  rw [hl] at hr
  have d1 : l.drop 0 = vry LL.length ++ (cfL LL ++ r) := by rw [← hl]; simp [csL]
  have d2 := drop_len d1 rfl
  have hle := congrArg List.length d1
  simp only [List.length_drop, List.length_append] at hle
  unfold rchs
  rw [hl, nm_mk hr (by omega) (by omega) h2 d1, Option.bind_some]
  simp only
  rw [pChs_mk hr (by omega) (csB_all h) d2]
  simp [csL]
theorem csL_len {LL : List (List Nat)} (h : csB LL = true) : (csL LL).length ≤ 65770 := by
  obtain ⟨h1, h2, h3⟩ := csB_n h
  have l1 := vry_len LL.length
  have l2 := cfL_len h3
  simp only [csL, List.length_append]; omega
theorem rch_mk {LL : List (List Nat)} (h : csB LL = true) : rch (csL LL) = some LL := by
  have h0 := csL_len h
  have := rchs_mk (r := []) (by simp; omega) h
  rw [List.append_nil] at this
  unfold rch
  rw [this, Option.bind_some, if_pos ⟨rfl, h⟩]
theorem rch_more {l m : List UInt8} {LL : List (List Nat)} (h : rch l = some LL) (hm : m ≠ []) (hl : (l ++ m).length ≤ 200000) : rch (l ++ m) = none := by
  obtain ⟨h1, h2, h3, h5⟩ := rch_ok h
  subst h1
  have := rchs_mk hl h2
  unfold rch
  rw [this, Option.bind_some, if_neg]
  rintro ⟨e, _⟩
  simp only [List.length_append] at e
  exact hm (List.length_eq_zero_iff.1 (by omega))
theorem red_more {l m : List UInt8} {p : Nat × Int × Int} (h : red l = some p) (hm : m ≠ []) (hl : (l ++ m).length ≤ 200000) : red (l ++ m) = none := by
  obtain ⟨x, f, s⟩ := p
  obtain ⟨h1, h2, h3, h4⟩ := red_ok h
  cases hn : red (l ++ m) with
  | none => rfl
  | some q =>
    exfalso
    obtain ⟨y, g, t⟩ := q
    obtain ⟨k1, k2, k3, k4⟩ := red_ok hn
    obtain ⟨p1, p2, p3, p4, p5, p6⟩ := enB_ok h2
    obtain ⟨q1, q2, q3, q4, q5, q6⟩ := enB_ok k2
    have e : UInt8.ofNat x :: (vry (dbl f) ++ (vry s.toNat ++ m)) = UInt8.ofNat y :: (vry (dbl g) ++ vry t.toNat) := by
      rw [h1] at k1; simpa [endL] using k1
    injection e with _ e
    have r1 := rd_vry (n := dbl f) (dbl_lt (by omega)) (vry s.toNat ++ m)
    rw [e, rd_vry (n := dbl g) (dbl_lt (by omega))] at r1
    injection r1 with _ r1
    injection r1 with r1 _
    rw [r1] at e
    have e2 := List.append_cancel_left e
    have r2 := rd_vry (n := s.toNat) (by omega) m
    have r3 := rd_vry (n := t.toNat) (by omega) []
    rw [List.append_nil, ← e2, r2] at r3
    injection r3 with _ r3
    injection r3 with r3 _
    rw [r3] at e2
    have := congrArg List.length e2
    simp only [List.length_append] at this
    exact hm (List.length_eq_zero_iff.1 (by omega))

end Go.Proofs.Ytljpggebpfpelaa
