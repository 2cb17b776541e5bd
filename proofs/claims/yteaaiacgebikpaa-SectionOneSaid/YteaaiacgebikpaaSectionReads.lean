/- The walk of SectionReads. -/
import Derived.Test.YteaaiacgebikpaaSec11
import Derived.Test.YteaaiacgebikpaaSec5
namespace Go.Proofs.Yteaaiacgebikpaa
open Go.RowKit Wire Crc
set_option linter.unusedVariables false

theorem redS_len (b : List UInt8) : (redS b).1.length ≤ 7 := by
  have he : ∀ x, (endS x).1.length ≤ 7 := by
    intro x
    rcases x with _ | ⟨L, S, r⟩
    · simp [endS]
    · simp only [endS]
      by_cases h : ordB 0 L = false ∨ r ≠ []
      · rw [if_pos h]; simp
      · rw [if_neg h]
        have ho : ordB 0 L = true := by
          cases hb : ordB 0 L
          · exact absurd (.inl hb) h
          · rfl
        have := ordB_len (by omega) ho
        by_cases h2 : L.map (fun p => nxt 0 p.2) = S
        · rw [if_pos h2]; show L.length ≤ 7; omega
        · rw [if_neg h2]; simp
  unfold redS
  by_cases h1 : 200000 < b.length
  · rw [if_pos h1]; simp
  rw [if_neg h1]
  by_cases h2 : b.length < 10
  · rw [if_pos h2]; simp
  rw [if_neg h2]
  by_cases h3 : b.take 5 ≠ [87, 82, 67, 75, 1]
  · rw [if_pos h3]; simp
  rw [if_neg h3]
  by_cases h4 : 7 < (b.getD 5 0).toNat
  · rw [if_pos h4]; simp
  rw [if_neg h4]
  generalize (b.getD 5 0).toNat = k
  unfold bodS
  by_cases h5 : b.length < 10 + 13 * k
  · rw [if_pos h5]; simp
  rw [if_neg h5]
  by_cases h6 : num4 (b.drop (6 + 13 * k)) ≠ nxt 0 (b.take (6 + 13 * k))
  · rw [if_pos h6]; simp
  rw [if_neg h6]
  exact he _
/-- Sections of the call's own, whose bytes may change. -/
def OwW (w : World) (B : Nat) (A : Option Addr) (n c : Nat) (vs : List (List Value)) : Prop :=
  vs.length = n ∧ (∀ u ∈ vs, u.length = 2 ∧ ∀ v ∈ u, v.oneCell' = true) ∧ w.ownsRow B 32 2 (.slice A n c) n vs.flatten ∧
    ∀ (k : Nat) (u : List Value), vs[k]? = some u → ∃ (b : Nat) (Ai : Option Addr) (ci : Nat) (l : List UInt8), u = [.int .u8 (b : Int), .slice Ai l.length ci] ∧ w.ownsRow B 5 1 (.slice Ai l.length ci) l.length (l.map b8)
theorem OwW.of {w : World} {B n c : Nat} {A : Option Addr} {L : List (Nat × List UInt8)} (h : OwR w B A n c L) : ∃ vs, OwW w B A n c vs := by
  obtain ⟨h1, vs, h2, h3, h4, h5⟩ := h
  refine ⟨vs, h2, h3, h4, fun k u hu => ?_⟩
  have hk : k < L.length := by rw [h1, ← h2]; exact (List.getElem?_eq_some_iff.1 hu).1
  obtain ⟨Ai, ci, g1, g2, g3⟩ := h5 k L[k] (List.getElem?_eq_getElem hk)
  rw [hu] at g1
  injection g1 with g1
  exact ⟨_, Ai, ci, _, g1, g2⟩
theorem own_set_any {w : World} {B : Nat} {A : Option Addr} {c : Nat} {l : List UInt8} (h : w.ownsRow B 5 1 (.slice A l.length c) l.length (l.map b8)) (g j : Nat) (x : UInt8) :
    ∃ l2 : List UInt8, l2.length = l.length ∧ (w.setCell ⟨g, j, none⟩ (b8 x)).ownsRow B 5 1 (.slice A l2.length c) l2.length (l2.map b8) := by
  by_cases hg : (Value.slice A l.length c).ownBlock = some g
  · have hA : A = some ⟨g, 0, none⟩ := by
      rcases h.2 with ⟨h0, _⟩ | ⟨g', cap, cur, h0, _⟩
      · injection h0 with h1 h2 h3
        subst h1
        simp [Value.ownBlock] at hg
      · injection h0 with h1 h2 h3
        subst h1
        simp [Value.ownBlock] at hg
        subst hg
        rfl
    subst hA
    refine ⟨l.set j x, by simp, ?_⟩
    rw [List.map_set, List.length_set]
    exact (h.stored j (b8 x)).1
  · exact ⟨l, rfl, ownsRow_setCell_other h hg _⟩
theorem OwW.set {w : World} {B n c : Nat} {A : Option Addr} {vs : List (List Value)} (h : OwW w B A n c vs) (g j : Nat) (x : UInt8) (hg : (Value.slice A n c).ownBlock ≠ some g) : OwW (w.setCell ⟨g, j, none⟩ (b8 x)) B A n c vs := by
  obtain ⟨h1, h2, h3, h4⟩ := h
  refine ⟨h1, h2, ownsRow_setCell_other h3 hg _, fun k u hu => ?_⟩
  obtain ⟨b, Ai, ci, l, g1, g2⟩ := h4 k u hu
  obtain ⟨l2, e1, e2⟩ := own_set_any g2 g j x
  exact ⟨b, Ai, ci, l2, by rw [e1]; exact g1, e2⟩
theorem OwW.at_ {w : World} {B n c : Nat} {A : Option Addr} {vs : List (List Value)} (h : OwW w B A n c vs) {i : Nat} (hi : i < n) : ∃ (ad : Addr) (b : Nat) (Ai : Option Addr) (ci m : Nat), A = some ad ∧ vs[i]? = some [.int .u8 (b : Int), .slice Ai m ci] ∧
    w.cell? { block := (ad.add (i * 2)).block, off := (ad.add (i * 2)).off + 1 } = some (.slice Ai m ci) ∧ m ≤ 9223372036854775807 := by
  obtain ⟨h1, h2, h3, h4⟩ := h
  obtain ⟨b, Ai, ci, l, g1, g2⟩ := h4 i vs[i] (List.getElem?_eq_getElem (by omega))
  have hv : vs[i]? = some [.int .u8 (b : Int), .slice Ai l.length ci] := by rw [List.getElem?_eq_getElem (by omega), g1]
  obtain ⟨f1, f2⟩ := flat2_get (fun u hu => (h2 u hu).1) hv
  obtain ⟨ad, rfl, hb, hc⟩ := (own_reads h3).2 (by omega)
  have hcap := own_cap g2
  exact ⟨ad, b, Ai, ci, l.length, rfl, hv, by rw [at_off2]; exact hc _ _ f2, by have h := hcap.2; have h' := hcap.1; unfold maxLen at h; omega⟩
theorem OwW.byte {w : World} {B n c : Nat} {A : Option Addr} {vs : List (List Value)} (h : OwW w B A n c vs) {i b m ci k : Nat} {Ai : Option Addr} (hv : vs[i]? = some [.int .u8 (b : Int), .slice Ai m ci]) (hk : k < m) :
    ∃ g x, Ai = some ⟨g, 0, none⟩ ∧ B ≤ g ∧ (Value.slice A n c).ownBlock ≠ some g ∧ w.cell? ⟨g, k, none⟩ = some (b8 x) ∧ w.frozen? ⟨g, k, none⟩ = false := by
  obtain ⟨h1, h2, h3, h4⟩ := h
  obtain ⟨b', Aj, cj, l, g1, g2⟩ := h4 i _ hv
  injection g1 with _ g1
  injection g1 with g1 _
  injection g1 with g3 g4 g5
  subst g3 g4 g5
  obtain ⟨g, rfl, hg⟩ := own_head g2 (by omega)
  have hx : l[k]? = some l[k] := List.getElem?_eq_getElem hk
  refine ⟨g, l[k], rfl, hg, ?_, ?_, g2.frozenAt k⟩
  · intro he
    have hne : 32 ≠ 5 := by decide
    rcases h3.2 with ⟨h0, _⟩ | ⟨g', cap, cur, h0, _, hh, _⟩
    · rw [h0] at he; simp [Value.ownBlock] at he
    · rw [h0] at he
      simp [Value.ownBlock] at he
      subst he
      rcases g2.2 with ⟨h0', _⟩ | ⟨g'', cap', cur', h0', _, hh', _⟩
      · simp at h0'
      · simp at h0'
        obtain ⟨e1, e2⟩ := h0'
        subst e1
        rw [hh] at hh'
        injection hh' with hh'
        injection hh' with _ ht
        exact hne ht
  · rw [g2.cellAt k (by omega), List.getElem?_map, hx]; rfl
set_option maxRecDepth 100000 in
theorem xor255 : ∀ x : Fin 256, bits BinOp.xor IntKind.u8 ((x.val : Nat) : Int) 255 = ((255 - x.val : Nat) : Int) := by decide
theorem xor255_b8 (x : UInt8) : Value.int .u8 (bits BinOp.xor IntKind.u8 (x.toNat : Int) 255) = b8 (UInt8.ofNat (255 - x.toNat)) := by
  have hx := x.toNat_lt
  rw [xor255 ⟨x.toNat, hx⟩, b8_ofNat (by omega)]

set_option maxRecDepth 100000 in
set_option maxHeartbeats 6400000 in
theorem sectionReads_walk (w : World) (A : Option Addr) (n0 c : Nat) (b : List UInt8) (hr : Rb w A n0 b) (hc : n0 ≤ c ∧ c ≤ 9223372036854775807) :
    Calls Try.prog 3 #[.slice A n0 c] w fun e w' => e = .returned (.bool true) ∧ Below w.heap.size w w' := by
  have hlb := hr.len8
  subst hlb
  have HR := Lib.hid hr
  obtain ⟨P1, hP1⟩ : ∃ P, (redS b).1 = P := ⟨_, rfl⟩
  obtain ⟨E1, hE1⟩ : ∃ P, (redS b).2 = P := ⟨_, rfl⟩
  have H1 := Lib.hid (fun (A : Option Addr) (n c : Nat) W (h : Rb W A n b) (hc : n ≤ c ∧ c ≤ 9223372036854775807) => read25_any A n c b W h hc)
  have H2 := Lib.hid (fun (A : Option Addr) (n c : Nat) W (h : Rb W A n b) (hc : n ≤ c ∧ c ≤ 9223372036854775807) => rread25_any A n c b W h hc)
  have hlen := redS_len b
  rw [hP1, hE1] at H1 H2
  rw [hP1] at hlen
  obtain ⟨n, hn⟩ : ∃ n, b.length = n := ⟨_, rfl⟩
  have HN := Lib.hid hn
  have HR2 := Lib.hid (show Rb w A n b from hn ▸ hr)
  rw [hn] at hc ⊢
  have KB := cvS25 c HR2.out
  clear hr hP1 hE1 hn
  go_enter Try.func3, Try.ntmps3
  go_wp2_with fail
  refine (long25_any A n c _ (by omega)).mono ?_
  rintro e wq ⟨rfl, rfl⟩
  by_cases hlg : 3000 < n ∧ n ≤ 200000 ∨ 200100 < n
  · rw [decide_eq_true hlg]
    go_wp2_with fail
    go_ret
    exact ⟨rfl, Below.refl _ _⟩
  rw [decide_eq_false hlg]
  have hn2 : n ≤ 200100 := by omega
  clear hlg
  go_wp2_with fail
  refine (H1.out A n c _ HR2.out hc).mono ?_
  rintro e w3 ⟨A3, c3, rfl, o3, b3⟩
  have hB3 := (Below.refl w.heap.size w).trans (b3.mono (Nat.le_refl _))
  obtain ⟨N, hNN⟩ : ∃ N, P1.length = N := ⟨_, rfl⟩
  rw [hNN] at o3 hlen ⊢
  have HNN := Lib.hid hNN
  have hsz : (⟨b.toArray⟩ : ByteArray).size = n := by show b.toArray.size = n; rw [List.size_toArray]; exact HN.out
  have HSZ := Lib.hid hsz
  clear KB b3 hNN hsz
  go_wp2_with (refine wpList_to_own rfl (.tmp 20) rfl ⟨b.toArray⟩ rfl (by rw [HSZ.out]; unfold maxLen; omega) ?_; intro A4 c4 w4 o4 b4 hc4; rw [HSZ.out] at o4 hc4 ⊢)
  replace o4 : OwU w4 w3.heap.size A4 n b := by simpa using o4
  have hB4 := hB3.trans (b4.mono hB3.size)
  have o3b := o3.call b4
  clear o3 b4
  refine (H2.out A4 n c4 _ o4.rd (by obtain ⟨h1, h2⟩ := hc4; unfold maxLen at h2; omega)).mono ?_
  rintro e w5 ⟨A5, c5, rfl, o5, b5⟩
  have hB5 := hB4.trans (b5.mono hB4.size)
  have o3c := o3b.call b5
  rw [HNN.out] at o5 ⊢
  clear o4 o3b b5 hB3 hB4
  go_wp2_with fail
  refine (same25_any A3 N c3 P1 A5 N c5 P1 _ o3c.rd o5.rd (by omega)).mono ?_
  rintro e w6 ⟨rfl, b6⟩
  rw [decide_eq_true (rfl : P1 = P1)]
  have hB6 := hB5.trans (b6.mono hB5.size)
  have o3d := o3c.call b6
  have hEE : (E1 != E1) = false := by simp
  obtain ⟨vs, ow⟩ := OwW.of o3d
  clear o3c o5 b6 hB5 o3d
  go_wp2_with fail
  go_loopw [8] (fun i wr => ∃ j : Nat, j ≤ N ∧ i = .int .i64 (j : Int) ∧ OwW wr w.heap.size A3 N c3 vs ∧ Below w.heap.size w wr) (fun i _ => N - (intOf i).toNat)
  case atStart => exact ⟨0, by omega, rfl, ow, hB6⟩
  case round =>
    clear ow hB6
    obtain ⟨i, hi, rfl, ow, hB⟩ := hrel
    by_cases hin : i < N
    · obtain ⟨ad, bb, Ai, ci, m, hA, hv, hc1, hm⟩ := ow.at_ hin
      have HV := Lib.hid hv
      clear hv hc1
      subst hA
      go_wp2_with fail
      go_loopw [9] (fun i wr => ∃ k : Nat, k ≤ m ∧ i = .int .i64 (k : Int) ∧ OwW wr w.heap.size (some ad) N c3 vs ∧ Below w.heap.size w wr) (fun i _ => m - (intOf i).toNat)
      case atStart => exact ⟨0, by omega, rfl, ow, hB⟩
      case round =>
        clear ow hB
        obtain ⟨k, hk, rfl, ow, hB⟩ := hrel
        obtain ⟨ad', bb', Ai', ci', m', hA, hv, hc1, hm'⟩ := ow.at_ hin
        injection hA with hA
        subst hA
        rw [HV.out] at hv
        injection hv with hv
        injection hv with _ hv
        injection hv with hv _
        injection hv with h1 h2 h3
        subst h1 h2 h3
        by_cases hkm : k < m
        · obtain ⟨g, x, hAi, hg, hne, hcx, hfx⟩ := ow.byte HV.out hkm
          have HV2 := Lib.hid HV.out
          subst hAi
          have OW := Lib.hid (ow.set g k (UInt8.ofNat (255 - x.toNat)) hne)
          have HB2 := Lib.hid (hB.setCell (p := ⟨g, k, none⟩) hg (b8 (UInt8.ofNat (255 - x.toNat))))
          rw [← xor255_b8] at OW HB2
          rw [b8] at hcx
          clear ow hB HV2
          go_wp2_with fail
          go_roundw
          case rel => exact ⟨k + 1, by omega, by go_num, OW.out, HB2.out⟩
          case measure => simp [intOf]; omega
        · obtain rfl : k = m := by omega
          go_wp2_with fail
          go_roundw
          case rel => exact ⟨i + 1, by omega, by go_num, ow, hB⟩
          case measure => simp [intOf]; omega
    · obtain rfl : i = N := by omega
      have KB := cvS25 c (HR2.out.mv hB)
      go_wp2_with fail
      go_ret
      exact ⟨rfl, hB⟩

end Go.Proofs.Yteaaiacgebikpaa
