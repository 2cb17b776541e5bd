/- Contracts and laws of a chapter that its statement of names leans on. Each states its conditions. -/
import Derived.Test.YtldaijkcmnnjpaaMem11
namespace Go.Proofs.Ytldaijkcmnnjpaa
open Go.RowKit Wire
set_option linter.unusedVariables false
/-- Regions that a call has made: the row, and the bytes of each; their blocks lie from B on, below H. -/
def OwV (w : World) (B H : Nat) (A : Option Addr) (n c : Nat) (L : List (Nat × List UInt8)) : Prop :=
  L.length = n ∧ H ≤ w.heap.size ∧ (∀ g, (Value.slice A n c).ownBlock = some g → g < H) ∧ ∃ vs : List (List Value), vs.length = n ∧ (∀ u ∈ vs, u.length = 2 ∧ ∀ v ∈ u, v.oneCell' = true) ∧ w.ownsRow B 75 2 (.slice A n c) n vs.flatten ∧
    ∀ (k : Nat) (p : Nat × List UInt8), L[k]? = some p → ∃ Ai ci, vs[k]? = some [.int .u64 (p.1 : Int), .slice Ai p.2.length ci] ∧ OwU w B Ai p.2.length p.2 ∧ (∀ g, (Value.slice Ai p.2.length ci).ownBlock = some g → g < H) ∧ (p.2.length ≤ ci ∧ ci ≤ 9223372036854775807) ∧ p.1 < 18446744073709551616
section
variable {w w' : World} {B B' H n c : Nat} {A : Option Addr} {L : List (Nat × List UInt8)}
theorem OwV.rd (h : OwV w B H A n c L) : RdR w A n L := by
  obtain ⟨h1, _, _, vs, h2, h3, h4, h5⟩ := h
  refine ⟨h1, vs, h2, fun u hu => (h3 u hu).1, Reads.of_own h4, fun k p hp => ?_⟩
  obtain ⟨Ai, ci, g1, g2, _, g3, g4⟩ := h5 k p hp
  exact ⟨Ai, ci, g1, g3, g2.rd, g4⟩
theorem OwV.call (h : OwV w B H A n c L) (b : Below w.heap.size w w') : OwV w' B H A n c L := by
  obtain ⟨h1, hh, hl, vs, h2, h3, h4, h5⟩ := h
  refine ⟨h1, Nat.le_trans hh b.size, hl, vs, h2, h3, own_call h4 b, fun k p hp => ?_⟩
  obtain ⟨Ai, ci, g1, g2, g3⟩ := h5 k p hp
  exact ⟨Ai, ci, g1, g2.call b, g3⟩
theorem OwV.al (h : OwV w B H A n c L) (o : Obj) : OwV (w.alloc o) B H A n c L := h.call (Ext.al w o)
theorem OwV.drew (h : OwV w B H A n c L) : OwV w.drew B H A n c L := h.call (Ext.refl w).draw
theorem OwV.low (h : OwV w B H A n c L) (hb : B' ≤ B) : OwV w B' H A n c L := by
  obtain ⟨h1, hh, hl, vs, h2, h3, h4, h5⟩ := h
  refine ⟨h1, hh, hl, vs, h2, h3, own_low h4 hb, fun k p hp => ?_⟩
  obtain ⟨Ai, ci, g1, g2, g3⟩ := h5 k p hp
  exact ⟨Ai, ci, g1, g2.low hb, g3⟩
theorem OwV.top (h : OwV w B H A n c L) : OwV w B w.heap.size A n c L := by
  obtain ⟨h1, hh, hl, vs, h2, h3, h4, h5⟩ := h
  refine ⟨h1, Nat.le_refl _, fun g e => Nat.lt_of_lt_of_le (hl g e) hh, vs, h2, h3, h4, fun k p hp => ?_⟩
  obtain ⟨Ai, ci, g1, g2, g3, g4⟩ := h5 k p hp
  exact ⟨Ai, ci, g1, g2, fun g e => Nat.lt_of_lt_of_le (g3 g e) hh, g4⟩
theorem OwV.setOut {a : Addr} (hp : a.block < B ∨ H ≤ a.block) (h : OwV w B H A n c L) (u : Value) : OwV (w.setCell a u) B H A n c L := by
  obtain ⟨h1, hh, hl, vs, h2, h3, h4, h5⟩ := h
  refine ⟨h1, by simpa using hh, hl, vs, h2, h3, own_set_ (fun e => ?_) h4 u, fun k p hp' => ?_⟩
  · have := (h4.lt _ e).1
    have := hl _ e
    omega
  · obtain ⟨Ai, ci, g1, g2, g3, g4⟩ := h5 k p hp'
    refine ⟨Ai, ci, g1, OwU.setOther (c := ci) (fun e => ?_) g2 u, g3, g4⟩
    have := (g2.lt e).1
    have := g3 _ e
    omega
theorem OwV.nil (w : World) (B H : Nat) (hh : H ≤ w.heap.size) : OwV w B H none 0 0 [] :=
  ⟨rfl, hh, by simp [Value.ownBlock], [], rfl, by simp, World.ownsRow_nil _ _ _ _, fun k p hp => by simp at hp⟩
theorem OwV.snoc {p : Nat × List UInt8} {Ai : Option Addr} {ci c' : Nat} {A' : Option Addr} {vs : List (List Value)}
    (h1 : L.length = n) (h2 : vs.length = n) (h3 : ∀ u ∈ vs, u.length = 2 ∧ ∀ v ∈ u, v.oneCell' = true) (h4 : w.ownsRow B 75 2 (.slice A n c) n vs.flatten)
    (h5 : ∀ (k : Nat) (p : Nat × List UInt8), L[k]? = some p → ∃ Ai ci, vs[k]? = some [.int .u64 (p.1 : Int), .slice Ai p.2.length ci] ∧ OwU w B Ai p.2.length p.2 ∧ (∀ g, (Value.slice Ai p.2.length ci).ownBlock = some g → g < H) ∧ (p.2.length ≤ ci ∧ ci ≤ 9223372036854775807) ∧ p.1 < 18446744073709551616)
    (ho : OwU w B Ai p.2.length p.2) (hci : p.2.length ≤ ci ∧ ci ≤ 9223372036854775807) (hp : p.1 < 18446744073709551616)
    (hn : w'.ownsRow B 75 2 (.slice A' (n + 1) c') (n + 1) (vs.flatten ++ [.int .u64 (p.1 : Int), .slice Ai p.2.length ci])) (hg : w.grownBy w' (Value.slice A n c).ownBlock) : OwV w' B w'.heap.size A' (n + 1) c' (L ++ [p]) := by
  have hne : 5 ≠ 75 := by decide
  refine ⟨by simp [h1], Nat.le_refl _, fun g e => (hn.lt _ e).2, vs ++ [[.int .u64 (p.1 : Int), .slice Ai p.2.length ci]], by simp [h2], fun u hu => ?_, by simpa using hn, fun k q hq => ?_⟩
  · rcases List.mem_append.1 hu with h | h
    · exact h3 u h
    · simp at h; subst h; simp [Value.oneCell']
  · by_cases hk : k < n
    · rw [List.getElem?_append_left (by omega)] at hq ⊢
      obtain ⟨Aj, cj, g1, g2, _, g3⟩ := h5 k q hq
      have g4 := g2.grow h4 hne hg
      exact ⟨Aj, cj, g1, g4, fun g e => (g4.lt e).2, g3⟩
    · rw [List.getElem?_append_right (by omega)] at hq
      have hk0 : k - L.length = 0 := by
        rcases Nat.eq_zero_or_pos (k - L.length) with h | h
        · exact h
        · rw [List.getElem?_eq_none (by simp; omega)] at hq; cases hq
      rw [hk0] at hq
      simp at hq
      subst hq
      obtain rfl : k = n := by omega
      have g4 := ho.grow h4 hne hg
      exact ⟨Ai, ci, by rw [List.getElem?_append_right (by omega), h2]; simp, g4, fun g e => (g4.lt e).2, hci, hp⟩
theorem OwR.toV (h : OwR w B A n c L) : OwV w B w.heap.size A n c L := by
  obtain ⟨h1, vs, h2, h3, h4, h5⟩ := h
  refine ⟨h1, Nat.le_refl _, fun g e => (h4.lt _ e).2, vs, h2, h3, h4, fun k p hp => ?_⟩
  obtain ⟨Ai, ci, g1, g2, g3⟩ := h5 k p hp
  have hc := own_cap g2
  unfold maxLen at hc
  exact ⟨Ai, ci, g1, OwU.of_own g2, fun g e => (g2.lt _ e).2, hc, g3⟩
end
/-- So many regions from an index and a place on: whether they can be read, the regions, the place behind them. -/
def rsR (l : List UInt8) : Nat → Nat → Nat → Bool × List (Nat × List UInt8) × Nat
  | 0, _, a => (true, [], a)
  | k + 1, g, a =>
    if utE l (a : Int) 4096 = 0 then
      ((rsR l k (g + 1) (a + (uvR l (a : Int)).2.2 + (uvR l (a : Int)).2.1)).1, (16777216 * (g + 1), (l.drop (a + (uvR l (a : Int)).2.2)).take (uvR l (a : Int)).2.1) :: (rsR l k (g + 1) (a + (uvR l (a : Int)).2.2 + (uvR l (a : Int)).2.1)).2.1, (rsR l k (g + 1) (a + (uvR l (a : Int)).2.2 + (uvR l (a : Int)).2.1)).2.2)
    else (false, [], 0)
theorem rs_no {l : List UInt8} {k g a : Nat} (h : utE l (a : Int) 4096 ≠ 0) : rsR l (k + 1) g a = (false, [], 0) := by rw [rsR, if_neg h]
theorem rs_yes {l : List UInt8} {k g a u y : Nat} (h : utE l (a : Int) 4096 = 0) (hu : (uvR l (a : Int)).2.2 = u) (hy : (uvR l (a : Int)).2.1 = y) :
    rsR l (k + 1) g a = ((rsR l k (g + 1) (a + u + y)).1, (16777216 * (g + 1), (l.drop (a + u)).take y) :: (rsR l k (g + 1) (a + u + y)).2.1, (rsR l k (g + 1) (a + u + y)).2.2) := by
  subst hu hy; rw [rsR, if_pos h]
/-- Whether bytes are those of stacks. -/
def rsB (l : List UInt8) : Bool := decide (uvE l 0 16 = 0) && ((rsR l (uvR l 0).2.1 0 (uvR l 0).2.2).1 && (decide ((rsR l (uvR l 0).2.1 0 (uvR l 0).2.2).2.2 = l.length) && stB (rsR l (uvR l 0).2.1 0 (uvR l 0).2.2).2.1))
def rsL (l : List UInt8) : List (Nat × List UInt8) := if rsB l then (rsR l (uvR l 0).2.1 0 (uvR l 0).2.2).2.1 else []
def rsE (l : List UInt8) : Int := if rsB l then 0 else 12
def RsP (w : World) (l : List UInt8) (e : Ending) (w' : World) : Prop :=
  ∃ A' c', e = .returned (.tuple #[.slice A' (rsL l).length c', .int .i64 (rsE l)]) ∧ OwV w' w.heap.size w'.heap.size A' (rsL l).length c' (rsL l) ∧ Below w.heap.size w w'
theorem rsb_no {l : List UInt8} (h : rsB l = false) : rsL l = [] ∧ rsE l = 12 := by simp [rsL, rsE, h]
theorem rsb_yes {l : List UInt8} (h : rsB l = true) : rsL l = (rsR l (uvR l 0).2.1 0 (uvR l 0).2.2).2.1 ∧ rsE l = 0 := by simp [rsL, rsE, h]

end Go.Proofs.Ytldaijkcmnnjpaa
