/- Contracts and laws of a chapter that its statement of names leans on. Each states its conditions. -/
import Derived.Test.YtldaijkcmnnjpaaWireBackLaw
import Derived.Test.YtldaijkcmnnjpaaRet3
import Derived.BigQuiet
namespace Go.Proofs.Ytldaijkcmnnjpaa
open Go.RowKit Wire
set_option linter.unusedVariables false
/-- The cells of runs. -/
def rnC : List (Int × Nat) → List Value
  | [] => []
  | p :: r => .int .i64 p.1 :: .int .u64 (p.2 : Int) :: rnC r
theorem rnC_len (L : List (Int × Nat)) : (rnC L).length = L.length * 2 := by
  induction L with
  | nil => rfl
  | cons p L ih => simp [rnC, ih]; omega
theorem rnC_append (L M : List (Int × Nat)) : rnC (L ++ M) = rnC L ++ rnC M := by
  induction L with
  | nil => rfl
  | cons p L ih => simp [rnC, ih]
theorem rnC_drop (L : List (Int × Nat)) (k : Nat) : (rnC L).drop (k * 2) = rnC (L.drop k) := by
  induction L generalizing k with
  | nil => simp [rnC]
  | cons p L ih =>
    rcases k with _ | k
    · simp
    · rw [show (k + 1) * 2 = k * 2 + 1 + 1 by omega]
      simp [rnC, ih]
theorem rnC_get {L : List (Int × Nat)} {k : Nat} {p : Int × Nat} (h : L[k]? = some p) : (rnC L)[k * 2]? = some (.int .i64 p.1) ∧ (rnC L)[k * 2 + 1]? = some (.int .u64 (p.2 : Int)) := by
  induction L generalizing k with
  | nil => simp at h
  | cons q L ih =>
    rcases k with _ | k
    · simp at h; subst h; simp [rnC]
    · have := ih (k := k) (by simpa using h)
      rw [show (k + 1) * 2 = k * 2 + 1 + 1 by omega, show k * 2 + 1 + 1 + 1 = (k * 2 + 1) + 1 + 1 by omega]
      simpa [rnC] using this
/-- A run that there can be. -/
def fitR (p : Int × Nat) : Prop := (-9223372036854775808 ≤ p.1 ∧ p.1 ≤ 9223372036854775807) ∧ p.2 < 18446744073709551616
/-- A slice of runs that reads as a list. -/
def RdN (w : World) (A : Option Addr) (n : Nat) (L : List (Int × Nat)) : Prop := Reads w w.heap.size 2 A n (rnC L) ∧ ∀ p ∈ L, fitR p
theorem RdN.mv {w w' : World} {A : Option Addr} {n : Nat} {L : List (Int × Nat)} (h : RdN w A n L) (hb : Below w.heap.size w w') : RdN w' A n L := ⟨h.1.mv hb, h.2⟩
theorem RdN.len {w : World} {A : Option Addr} {n : Nat} {L : List (Int × Nat)} (h : RdN w A n L) : L.length = n := by
  have := h.1.1
  rw [rnC_len] at this
  omega
theorem drop_get {α : Type} {l : List α} {j : Nat} {a : α} (h : l[j]? = some a) : l.drop j = a :: l.drop (j + 1) := by
  obtain ⟨hl, rfl⟩ := List.getElem?_eq_some_iff.mp h
  exact List.drop_eq_getElem_cons hl
theorem add2 (ad : Addr) (k : Nat) : ({ block := (ad.add k).block, off := (ad.add k).off + 1 } : Addr) = ad.add (k + 1) := by
  simp [Addr.add]; split <;> simp <;> omega
theorem RdN.at_ {w : World} {A : Option Addr} {n : Nat} {L : List (Int × Nat)} (h : RdN w A n L) {k : Nat} (hk : k < n) :
    ∃ ad f v, A = some ad ∧ ad.block < w.heap.size ∧ L[k]? = some (f, v) ∧ w.cell? (ad.add (k * 2)) = some (.int .i64 f) ∧ w.cell? { block := (ad.add (k * 2)).block, off := (ad.add (k * 2)).off + 1 } = some (.int .u64 (v : Int)) ∧
      (-9223372036854775808 ≤ f ∧ f ≤ 9223372036854775807) ∧ v < 18446744073709551616 := by
  have hl : k < L.length := by rw [h.len]; exact hk
  obtain ⟨h1, h2⟩ := h
  obtain ⟨ad, rfl, hb, hc⟩ := h1.2 (by omega)
  obtain ⟨g1, g2⟩ := rnC_get (List.getElem?_eq_getElem hl)
  have h3 := h2 _ (List.getElem_mem hl)
  exact ⟨ad, L[k].1, L[k].2, rfl, hb, List.getElem?_eq_getElem hl, hc _ _ g1, by rw [add2]; exact hc _ _ g2, h3.1, h3.2⟩
theorem RdN.cut {w : World} {A : Option Addr} {n : Nat} {L : List (Int × Nat)} (h : RdN w A n L) {k cap : Nat} (hk : k ≤ n) (hc : n ≤ cap) :
    RdN w (if cap = k then A else A.map (·.add (k * 2))) (n - k) (L.drop k) := by
  refine ⟨?_, fun p hp => h.2 p (List.mem_of_mem_drop hp)⟩
  have := h.1.cut hk hc
  rwa [rnC_drop] at this
/-- Whether runs go on from a run. -/
def chB : Int × Nat → List (Int × Nat) → Bool
  | _, [] => true
  | p, q :: r => (decide (p.1 < q.1) && !(p.2 == q.2)) && chB q r
/-- Whether runs are valid for some instructions. -/
def fnB (L : List (Int × Nat)) (n : Int) : Bool := match L with
  | [] => false
  | p :: r => (p.1 == 0) && (decide (((p :: r).getLast (by simp)).1 < n) && chB p r)
def cnE (n : Int) : Int := if 1 ≤ n ∧ n ≤ 200 then 0 else 2
def ckT (L : List (Int × Nat)) (n : Int) : Int := if 1 ≤ n ∧ n ≤ 200 then (if fnB L n then 0 else 8) else 2
set_option maxRecDepth 100000 in
set_option maxHeartbeats 1600000 in
theorem counted_any (n : Int) (w : World) :
    Calls Try.prog 67 #[.int .i64 n] w fun e w' => e = .returned (.int .i64 (cnE n)) ∧ w = w' := by
  go_enter Try.func67, Try.ntmps67
  go_wp2_with fail
  all_goals (go_ret; exact ⟨by unfold cnE; first | (rw [if_pos (by omega)]; rfl) | (rw [if_neg (by omega)]; rfl), rfl⟩)
theorem RdN.first {w : World} {A : Option Addr} {n : Nat} {p : Int × Nat} {r : List (Int × Nat)} (h : RdN w A n (p :: r)) :
    ∃ ad, A = some ad ∧ ad.block < w.heap.size ∧ w.cell? ad = some (.int .i64 p.1) ∧ w.cell? { block := ad.block, off := ad.off + 1 } = some (.int .u64 (p.2 : Int)) := by
  have hn := h.len
  obtain ⟨ad, f, v, rfl, hb, hz, c0, c1, _, _⟩ := h.at_ (k := 0) (by rw [← hn]; simp)
  simp at hz
  obtain ⟨rfl⟩ := hz
  have e : ad.add (0 * 2) = ad := by simp [Addr.add]
  rw [e] at c0 c1
  exact ⟨ad, rfl, hb, c0, c1⟩
set_option maxRecDepth 100000 in
set_option maxHeartbeats 3200000 in
theorem t_fine_any (A : Option Addr) (n c : Nat) (L : List (Int × Nat)) (k : Int) (w : World) (hr : RdN w A n L) (hc : n ≤ c ∧ c ≤ 9223372036854775807) :
    Calls Try.prog 68 #[.slice A n c, .int .i64 k] w fun e w' => e = .returned (.bool (fnB L k)) ∧ Below w.heap.size w w' := by
  rcases L with _ | ⟨⟨f, v⟩, r⟩
  · obtain rfl : n = 0 := hr.len.symm
    have HE := Lib.hid (show fnB [] k = false from rfl)
    go_enter Try.func68, Try.ntmps68
    go_wp2_with fail
    go_ret
    exact ⟨by rw [HE.out]; rfl, Below.refl _ _⟩
  have hl := hr.len
  obtain ⟨m, rfl⟩ : ∃ m, n = m + 1 := ⟨r.length, by rw [← hl]; rfl⟩
  obtain ⟨ad, rfl, hab, c0, c1⟩ := hr.first
  have HL := Lib.hid hl
  clear hl
  by_cases h0 : f = 0
  rotate_left
  · have d0 : (f != 0) = true := by rw [bne_iff_ne]; exact h0
    have HE := Lib.hid (show fnB ((f, v) :: r) k = false from by simp [fnB, h0])
    clear h0
    go_enter Try.func68, Try.ntmps68
    go_wp2_with fail
    go_ret
    exact ⟨by rw [HE.out]; rfl, Below.refl _ _⟩
  subst h0
  obtain ⟨ad2, g, u, hA, hab2, hz, e0, e1, hg, hu⟩ := hr.at_ (k := m) (by omega)
  injection hA with hA
  subst hA
  have HLT := Lib.hid (show (((0, v) :: r).getLast (by simp)).1 = g from by
    have e : ((0, v) :: r).getLast (by simp) = (g, u) := by
      rw [List.getLast_eq_getElem]
      have h2 := (List.getElem?_eq_some_iff.1 hz)
      obtain ⟨h3, h4⟩ := h2
      rw [← h4]
      congr 1
      have := HL.out
      simp at this ⊢
      omega
    rw [e])
  have hgm : m = 0 → g = 0 := by
    rintro rfl
    simp at hz
    exact hz.1.symm
  clear hz
  by_cases hk : k ≤ g
  · have dk : decide (k ≤ g) = true := by simpa using hk
    have HE := Lib.hid (show fnB ((0, v) :: r) k = false from by
      simp only [fnB, HLT.out]
      simp; omega)
    clear hk
    go_enter Try.func68, Try.ntmps68
    go_wp2_with fail
    go_ret
    exact ⟨by rw [HE.out]; rfl, Below.refl _ _⟩
  have dk : decide (k ≤ g) = false := by simpa using hk
  have HF := Lib.hid (show fnB ((0, v) :: r) k = chB (0, v) r from by
    simp only [fnB, HLT.out]
    simp; omega)
  clear hk HLT
  have RR := hr.cut (k := 1) (by omega) hc.1
  simp only [Nat.add_sub_cancel, List.drop_one, List.tail_cons] at RR
  have hB := (Below.refl w.heap.size w).alloc (Nat.le_refl _) (.cells #[.int .i64 0, .int .u64 (v : Int)] 57)
  have hk5 := Blk.new w 57 #[.int .i64 0, .int .u64 (v : Int)]
  by_cases hc1 : c = 1
  · obtain rfl : m = 0 := by omega
    obtain rfl := hgm rfl
    rw [if_pos hc1] at RR
    obtain rfl : r = [] := by have := HL.out; simpa using this
    go_enter Try.func68, Try.ntmps68
    go_wp2_with fail
    go_loopw [35] (fun i wr => i = .int .i64 0 ∧ Below w.heap.size w wr) (fun _ _ => 0)
    case atStart => exact ⟨rfl, hB⟩
    case round =>
      obtain ⟨rfl, hB⟩ := hrel
      go_wp2_with fail
      go_ret
      exact ⟨by rw [HF.out]; rfl, hB⟩
  · rw [if_neg hc1] at RR
    have RR : RdN w (some ⟨ad.block, ad.off + 2, none⟩) m r := by simpa [Addr.add] using RR
    go_enter Try.func68, Try.ntmps68
    go_wp2_with fail
    generalize w.alloc (.cells #[.int .i64 0, .int .u64 (v : Int)] 57) = x0 at *
    clear c0 c1 e0 e1 hr
    go_loopw [35] (fun i wr => ∃ (j : Nat) (f : Int) (q : Nat), j ≤ m ∧ i = .int .i64 (j : Int) ∧ Blk wr w.heap.size 57 #[.int .i64 f, .int .u64 (q : Int)] ∧ chB (f, q) (r.drop j) = chB (0, v) r ∧ Below w.heap.size w wr) (fun i _ => m - (intOf i).toNat)
    case atStart => exact ⟨0, 0, v, by omega, rfl, hk5, rfl, hB⟩
    case round =>
      obtain ⟨j, f, q, hj, rfl, hk5, ht, hB⟩ := hrel
      by_cases hlt : j < m
      · obtain ⟨ad3, f3, q3, hA3, hab3, hz3, d0, d1, hf3, hq3⟩ := (RR.mv hB).at_ hlt
        injection hA3 with hA3
        subst hA3
        simp only [Addr.add_lit] at d0 d1
        have hdr := drop_get hz3
        rw [hdr] at ht
        have HT := Lib.hid ht
        clear ht hz3 hdr
        have b1 := Ext.al wr (.cells #[.int .i64 f3, .int .u64 (q3 : Int)] 57)
        have hk7 := Blk.new wr 57 #[.int .i64 f3, .int .u64 (q3 : Int)]
        have hk6 := hk5.below b1 hk5.lt
        have hB1 := hB.trans (Below.mono b1 hB.size)
        have y0 : (wr.alloc (.cells #[.int .i64 f3, .int .u64 (q3 : Int)] 57)).cell? ⟨w.heap.size, 0, none⟩ = some (.int .i64 f) := (hk6.cell 0).trans rfl
        have y1 : (wr.alloc (.cells #[.int .i64 f3, .int .u64 (q3 : Int)] 57)).cell? ⟨w.heap.size, 1, none⟩ = some (.int .u64 (q : Int)) := (hk6.cell 1).trans rfl
        have yf0 := hk6.frozen 0
        have yf1 := hk6.frozen 1

        by_cases h1 : f3 ≤ f
        · have e1 : decide (f3 ≤ f) = true := by simpa using h1
          have HE := Lib.hid (show chB (0, v) r = false from by
            have h := HT.out
            simp only [chB] at h
            rw [← h]; simp; omega)
          clear h1
          go_wp2_with fail
          go_ret
          exact ⟨by rw [HF.out, HE.out]; rfl, hB1⟩
        have e1 : decide (f3 ≤ f) = false := by simpa using h1
        by_cases h2 : q3 = q
        · subst h2
          have HE := Lib.hid (show chB (0, v) r = false from by
            have h := HT.out
            simp only [chB] at h
            rw [← h]; simp)
          clear h1
          go_wp2_with fail
          go_ret
          exact ⟨by rw [HF.out, HE.out]; rfl, hB1⟩
        have e2 : ((q3 : Int) == (q : Int)) = false := by rw [beq_eq_false_iff_ne]; omega
        have HN := Lib.hid (show chB (f3, q3) (r.drop (j + 1)) = chB (0, v) r from by
          have h := HT.out
          simp only [chB] at h
          rw [← h]
          simp; omega)
        clear h1 h2
        go_wp2_with fail
        go_roundw
        case rel => exact ⟨j + 1, f3, q3, by omega, by go_num, (hk6.set_ 0 (.int .i64 f3)).set_ 1 (.int .u64 (q3 : Int)), HN.out, (hB1.setCell (p := ⟨w.heap.size, 0, none⟩) (Nat.le_refl _) (.int .i64 f3)).setCell (p := ⟨w.heap.size, 1, none⟩) (Nat.le_refl _) (.int .u64 (q3 : Int))⟩
        case measure => simp [intOf]; omega
      · have HE := Lib.hid (show chB (0, v) r = true from by
          rw [← ht, List.drop_of_length_le (by have := HL.out; simp at this; omega)]; rfl)
        clear ht
        go_wp2_with fail
        go_ret
        exact ⟨by rw [HF.out, HE.out]; rfl, hB⟩
theorem below_drewN {B : Nat} {u w : World} (h : Below B u w) (n : Nat) : Below B u (w.drewN n) := ⟨h.os, h.tape, h.output, h.size, h.block⟩
/-- The reference's form of it. -/
def frB : Int × Nat → List (Int × Nat) → Int → Bool
  | _, [], _ => true
  | p, q :: r, n => (decide (q.1 < n) && (decide (p.1 < q.1) && !(p.2 == q.2))) && frB q r n
theorem frB_eq (p : Int × Nat) (r : List (Int × Nat)) (n : Int) : (decide (((p :: r).getLast (by simp)).1 < n) && chB p r) = (decide (p.1 < n) && frB p r n) := by
  induction r generalizing p with
  | nil => rfl
  | cons q s ih =>
    have h := ih q
    rw [List.getLast_cons (by simp)]
    simp only [chB, frB]
    rw [Bool.and_left_comm, h]
    cases frB q s n <;> simp
    rw [Bool.eq_iff_iff]
    simp
    omega
theorem fnB_ref (p : Int × Nat) (r : List (Int × Nat)) (n : Int) : fnB (p :: r) n = ((p.1 == 0) && (decide (p.1 < n) && frB p r n)) := by
  rw [fnB, frB_eq]

end Go.Proofs.Ytldaijkcmnnjpaa
