/- What Encode and Decode say of each other. Plain Lean, no program. -/
import Derived.Test.YtkhdeoihjnpnaaaOps9
namespace Go.Proofs.Ytkhdeoihjnpnaaa
open Go.RowKit Wire
set_option linter.unusedVariables false

/-- A number that an operand may be, and that is read as it was written. -/
def Good (u : Use) (v : Int) : Prop := (u.1 < 0 ∨ (0 ≤ u.1 ∧ u.2.1 < 1048576)) ∧ (u.1 ≤ v ∧ v ≤ u.2.1) ∧ (-9223372036854775808 ≤ v ∧ v ≤ 9223372036854775807)
theorem enc_dec {u : Use} {v : Int} {l r : List UInt8} {p : Nat} (hl : l.length ≤ 200000) (hp : p ≤ l.length) (hd : l.drop p = encU u v ++ r) (hg : Good u v) :
    uvE l (p : Int) 18446744073709551615 = 0 ∧ dvN u l p = v ∧ (uvR l (p : Int)).2.2 = (encU u v).length := by
  obtain ⟨h1, h2, h3⟩ := hg
  by_cases hn : u.1 < 0
  · have he : encU u v = vry (dbl v) := by unfold encU; rw [if_pos hn]
    rw [he] at hd ⊢
    have hr := uvR_at (dbl_lt h3) hd
    obtain ⟨e1, e2, _⟩ := uv_mk hp hl hr (most := 18446744073709551615) (by have := dbl_lt h3; omega) none 0 0
    exact ⟨e1, by rw [dvN, if_pos hn, e2, hlf_dbl h3], by rw [hr]⟩
  · have h4 : 0 ≤ u.1 ∧ u.2.1 < 1048576 := by rcases h1 with h | h; exact absurd h hn; exact h
    obtain ⟨k, rfl⟩ := Int.eq_ofNat_of_zero_le (show 0 ≤ v by omega)
    have he : encU u (k : Int) = vry k := by unfold encU; rw [if_neg hn]; rfl
    rw [he] at hd ⊢
    have hk : k < 18446744073709551616 := by omega
    have hr := uvR_at hk hd
    obtain ⟨e1, e2, _⟩ := uv_mk hp hl hr (most := 18446744073709551615) (by omega) none 0 0
    refine ⟨e1, ?_, by rw [hr]⟩
    rw [dvN, if_neg hn, e2, Nat.min_eq_left (by omega)]
theorem encL_nil (n : Nat) (vs : List Int) : encL n [] vs = [] := by cases n <;> rfl
theorem dc_enc {l : List UInt8} (hl : l.length ≤ 200000) : ∀ (us : List Use) (vs : List Int) (n p : Nat) (r : List UInt8), us.length = vs.length → l.drop p = encL n us vs ++ r → p ≤ l.length →
    (∀ (i : Nat) (u : Use) (v : Int), i < n → us[i]? = some u → vs[i]? = some v → Good u v) → dcL n us l p = (0, vs.take n, p + (encL n us vs).length) := by
  intro us
  induction us with
  | nil =>
    intro vs n p r hlen hd hp hg
    obtain rfl : vs = [] := List.length_eq_zero_iff.1 hlen.symm
    rw [dcL_nil, encL_nil]; simp
  | cons u us ih =>
    intro vs n p r hlen hd hp hg
    cases vs with
    | nil => simp at hlen
    | cons v vs =>
      cases n with
      | zero => rw [dcL_zero]; rfl
      | succ n =>
        have e0 : encL (n + 1) (u :: us) (v :: vs) = encU u v ++ encL n us vs := rfl
        rw [e0] at hd ⊢
        rw [List.append_assoc] at hd
        obtain ⟨e1, e2, e3⟩ := enc_dec hl hp hd (hg 0 u v (by omega) rfl rfl)
        have hd2 := drop_len hd rfl
        have hp2 : p + (encU u v).length ≤ l.length := by
          have := congrArg List.length hd
          rw [List.length_drop, List.length_append] at this
          omega
        rw [dcL_ok e1, e2, e3, ih vs n _ r (by simpa using hlen) hd2 hp2 (fun i u' v' hi h1 h2 => hg (i + 1) u' v' (by omega) (by simpa using h1) (by simpa using h2))]
        simp [List.length_append, Nat.add_assoc]
/-- What the table says of the operands that are written. -/
def uOk (u : Use) (b : Bool) : Bool := if b then (decide (u.1 < 0) || (decide (0 ≤ u.1) && decide (u.2.1 < 1048576))) else decide (u.1 = 0 ∧ u.2.1 = 0)
def encOk (p : List Use × Int) : Bool := match p.1 with
  | [a, b, c] => uOk a (decide (0 < p.2)) && (uOk b (decide (1 < p.2)) && uOk c (decide (2 < p.2)))
  | _ => false
theorem shp_enc (op : Nat) : encOk (shp op) = true := by
  rcases shp_mem op with h | h
  · exact List.all_eq_true.1 (show shT.all encOk = true from by decide) _ h
  · rw [h]; decide
theorem uOk_in {u : Use} {v : Int} (h : uOk u true = true) (hf : u.1 ≤ v ∧ v ≤ u.2.1) (hv : -9223372036854775808 ≤ v ∧ v ≤ 9223372036854775807) : Good u v := by
  simp [uOk] at h
  exact ⟨h, hf, hv⟩
theorem uOk_out {u : Use} {v : Int} (h : uOk u false = true) (hf : u.1 ≤ v ∧ v ≤ u.2.1) : v = 0 := by
  simp [uOk] at h
  omega
theorem ofNat_op {op : Nat} (h : op < 256) : (UInt8.ofNat op).toNat = op := by rw [UInt8.toNat_ofNat']; omega
/-- What was written is read. -/
theorem dec_enI {op : Nat} {x y z : Int} (hop : op < 256) (hx : -9223372036854775808 ≤ x ∧ x ≤ 9223372036854775807) (hy : -9223372036854775808 ≤ y ∧ y ≤ 9223372036854775807) (hz : -9223372036854775808 ≤ z ∧ z ≤ 9223372036854775807)
    (hck : ckI op x y z = 0) {b : List UInt8} (hb : b.length ≤ 1000) {l : List UInt8} (hl : l = enI op x y z ++ b) :
    dcE l 0 = 0 ∧ (l.getD 0 0).toNat = op ∧ padI (dcD l 0).2.1 0 = x ∧ padI (dcD l 0).2.1 1 = y ∧ padI (dcD l 0).2.1 2 = z ∧ (dcD l 0).2.2 = (enI op x y z).length := by
  have h0 := shp_enc op
  obtain ⟨a1, a2, a3, a4, b1, b2, b3, b4, c1, c2, c3, c4, n, hs, hn1, hn3⟩ := shp_form op
  obtain ⟨hn0, fa, fb, fc⟩ := ck_parts hck hs
  obtain ⟨m, rfl⟩ := Int.eq_ofNat_of_zero_le hn0
  rw [hs] at h0
  simp only [encOk, Bool.and_eq_true] at h0
  obtain ⟨ga, gb, gc⟩ := h0
  have hen : enI op x y z = UInt8.ofNat op :: encL m [(a1, a2, a3, a4), (b1, b2, b3, b4), (c1, c2, c3, c4)] [x, y, z] := by rw [enI, if_pos hck, hs]; rfl
  have e0 : l.getD 0 0 = UInt8.ofNat op := by rw [hl, hen]; rfl
  have hop2 : (l.getD 0 0).toNat = op := by rw [e0, ofNat_op hop]
  have hlen : (encL m [(a1, a2, a3, a4), (b1, b2, b3, b4), (c1, c2, c3, c4)] [x, y, z]).length ≤ 30 := by
    have q1 := encU_len (a1, a2, a3, a4) x
    have q2 := encU_len (b1, b2, b3, b4) y
    have q3 := encU_len (c1, c2, c3, c4) z
    rcases m with _ | _ | _ | m
    · simp [encL]
    · simp [encL]; omega
    · simp [encL]; omega
    · cases m <;> simp [encL] <;> omega
  have hll : l.length ≤ 200000 := by rw [hl, hen]; simp; omega
  have hdr : l.drop 1 = encL m [(a1, a2, a3, a4), (b1, b2, b3, b4), (c1, c2, c3, c4)] [x, y, z] ++ b := by rw [hl, hen]; rfl
  have h1l : 1 ≤ l.length := by rw [hl, hen]; simp
  have hD : dcD l 0 = (0, [x, y, z].take m, 1 + (encL m [(a1, a2, a3, a4), (b1, b2, b3, b4), (c1, c2, c3, c4)] [x, y, z]).length) := by
    unfold dcD
    rw [hop2, hs]
    refine dc_enc hll _ _ m 1 b rfl hdr h1l (fun i u v hi h1 h2 => ?_)
    rcases i with _ | _ | _ | i
    · injection h1 with h1; injection h2 with h2; subst h1 h2
      rw [decide_eq_true (by omega)] at ga; exact uOk_in ga fa hx
    · injection h1 with h1; injection h2 with h2; subst h1 h2
      rw [decide_eq_true (by omega)] at gb; exact uOk_in gb fb hy
    · injection h1 with h1; injection h2 with h2; subst h1 h2
      rw [decide_eq_true (by omega)] at gc; exact uOk_in gc fc hz
    · simp at h1
  have px : padI ([x, y, z].take m) 0 = x ∧ padI ([x, y, z].take m) 1 = y ∧ padI ([x, y, z].take m) 2 = z := by
    have z1 : m ≤ 0 → x = 0 := fun h => by rw [decide_eq_false (by omega)] at ga; exact uOk_out ga fa
    have z2 : m ≤ 1 → y = 0 := fun h => by rw [decide_eq_false (by omega)] at gb; exact uOk_out gb fb
    have z3 : m ≤ 2 → z = 0 := fun h => by rw [decide_eq_false (by omega)] at gc; exact uOk_out gc fc
    rcases m with _ | _ | _ | m
    · rw [z1 (by omega), z2 (by omega), z3 (by omega)]; exact ⟨rfl, rfl, rfl⟩
    · rw [z2 (by omega), z3 (by omega)]; exact ⟨rfl, rfl, rfl⟩
    · rw [z3 (by omega)]; exact ⟨rfl, rfl, rfl⟩
    · cases m <;> exact ⟨rfl, rfl, rfl⟩
  rw [hD]
  refine ⟨?_, hop2, px.1, px.2.1, px.2.2, by rw [hen]; simp; omega⟩
  rw [dcE, show ckB l.length 0 = true from by simp [ckB]; omega, if_neg (by simp), if_neg (by simp; omega), show ((0 : Int)).toNat = 0 from rfl, hop2, hs, if_neg (by simp), hD, if_neg (by simp), px.1, px.2.1, px.2.2, if_pos hck]
end Go.Proofs.Ytkhdeoihjnpnaaa
