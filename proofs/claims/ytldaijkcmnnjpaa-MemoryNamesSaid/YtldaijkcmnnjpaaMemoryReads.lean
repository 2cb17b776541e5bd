/- Contracts and laws of a chapter that its statement of names leans on. Each states its conditions. -/
import Derived.Test.YtldaijkcmnnjpaaMem15
import Derived.Test.YtldaijkcmnnjpaaOpenS
import Derived.Test.YtldaijkcmnnjpaaMem8
namespace Go.Proofs.Ytldaijkcmnnjpaa
open Go.RowKit Wire
set_option linter.unusedVariables false
/-- Bytes that a call has made and may write, whatever they are. -/
def Byt (w : World) (B : Nat) (A : Option Addr) (m : Nat) : Prop :=
  m = 0 ∨ ∃ (g : Nat) (cur : Array Value) (lo hi : Nat), A = some ⟨g, 0, none⟩ ∧ B ≤ g ∧ w.heap[g]? = some (.cells cur 5 (lo, hi)) ∧ (m ≤ lo ∨ hi = 0) ∧ ∀ j : Nat, j < m → ∃ x : Int, cur[j]? = some (.int .u8 x)
theorem OwU.byt {w : World} {B n : Nat} {A : Option Addr} {l : List UInt8} (h : OwU w B A n l) : Byt w B A n := by
  rcases h.2 with ⟨_, h0⟩ | ⟨g, cur, lo, hi, h1, h2, h3, h4, h5⟩
  · exact .inl h0
  · exact .inr ⟨g, cur, lo, hi, h1, h2, h3, h4, fun j hj => by
      have hl : j < l.length := by rw [h.1]; exact hj
      exact ⟨_, h5 j l[j] (List.getElem?_eq_getElem hl)⟩⟩
theorem Byt.at_ {w : World} {B m j : Nat} {A : Option Addr} (h : Byt w B A m) (hj : j < m) :
    ∃ (ad : Addr) (x : Int), A = some ad ∧ B ≤ ad.block ∧ w.cell? (ad.add j) = some (.int .u8 x) ∧ w.frozen? (ad.add j) = false ∧ ∃ cur fz, w.heap[ad.block]? = some (.cells cur 5 fz) := by
  rcases h with h | ⟨g, cur, lo, hi, h1, h2, h3, h4, h5⟩
  · omega
  · obtain ⟨x, hx⟩ := h5 j hj
    refine ⟨_, x, h1, h2, ?_, ?_, _, _, h3⟩
    · rw [add_zero_at, cell_of_row w g j cur 5 (lo, hi) h3]; exact hx
    · rw [add_zero_at]
      simp only [World.frozen?, h3]
      rcases h4 with h4 | h4
      · have : decide (lo ≤ j) = false := decide_eq_false (by omega)
        rw [this]; rfl
      · subst h4; simp
theorem heap_set (w : World) (a : Addr) (v : Value) (g : Nat) : (w.setCell a v).heap[g]? = if a.block = g then (w.heap[g]?).map (fun
      | .cells c elem frozen => .cells (if a.spot.isSome then c else c.setIfInBounds a.off v) elem frozen
      | o => o) else w.heap[g]? := by
  simp [World.setCell, Array.getElem?_modify]
  split <;> first | rfl | simp_all
theorem Byt.set {w : World} {B m : Nat} {A : Option Addr} (h : Byt w B A m) (a : Addr) (y : Int) : Byt (w.setCell a (.int .u8 y)) B A m := by
  rcases h with h | ⟨g, cur, lo, hi, h1, h2, h3, h4, h5⟩
  · exact .inl h
  · by_cases hg : a.block = g
    · refine .inr ⟨g, if a.spot.isSome then cur else cur.setIfInBounds a.off (.int .u8 y), lo, hi, h1, h2, by rw [heap_set, if_pos hg, h3]; rfl, h4, fun j hj => ?_⟩
      obtain ⟨x, hx⟩ := h5 j hj
      split
      · exact ⟨x, hx⟩
      · rw [Array.getElem?_setIfInBounds]
        split
        · next he =>
          subst he
          have hlt : a.off < cur.size := (Array.getElem?_eq_some_iff.1 hx).1
          exact ⟨y, by simp [hlt]⟩
        · exact ⟨x, hx⟩
    · exact .inr ⟨g, cur, lo, hi, h1, h2, by rw [heap_set, if_neg hg]; exact h3, h4, h5⟩
/-- Regions in a row of the call's own, the bytes of each as above. -/
def XRow (w : World) (B : Nat) (A : Option Addr) (n c : Nat) (vs : List (List Value)) : Prop :=
  vs.length = n ∧ (∀ u ∈ vs, u.length = 2) ∧ w.ownsRow B 75 2 (.slice A n c) n vs.flatten ∧
    ∀ k, k < n → ∃ b Ai m ci, vs[k]? = some [b, .slice Ai m ci] ∧ m ≤ 9223372036854775807 ∧ Byt w B Ai m
theorem XRow.set {w : World} {B n c : Nat} {A : Option Addr} {vs : List (List Value)} (h : XRow w B A n c vs) {a : Addr} (ht : ∃ cur fz, w.heap[a.block]? = some (.cells cur 5 fz)) (y : Int) : XRow (w.setCell a (.int .u8 y)) B A n c vs := by
  obtain ⟨h1, h2, h3, h4⟩ := h
  refine ⟨h1, h2, own_set_ (fun e => ?_) h3 _, fun k hk => ?_⟩
  · obtain ⟨cur, fz, ht⟩ := ht
    rcases h3.2 with ⟨hv, _⟩ | ⟨g, cap, cur', hv, _, hh, _⟩
    · rw [hv] at e; simp [Value.ownBlock] at e
    · rw [hv] at e
      simp [Value.ownBlock] at e
      subst e
      have := hh.symm.trans ht
      simp at this
  · obtain ⟨b, Ai, m, ci, g1, g2, g3⟩ := h4 k hk
    exact ⟨b, Ai, m, ci, g1, g2, g3.set a y⟩
theorem XRow.at_ {w : World} {B n c k : Nat} {ad : Addr} {vs : List (List Value)} (h : XRow w B (some ad) n c vs) (hk : k < n) :
    ∃ b Ai m ci, w.cell? (ad.add (k * 2)) = some b ∧ w.cell? (ad.add (k * 2 + 1)) = some (.slice Ai m ci) ∧ vs[k]? = some [b, .slice Ai m ci] ∧ m ≤ 9223372036854775807 ∧ Byt w B Ai m := by
  obtain ⟨h1, h2, h3, h4⟩ := h
  obtain ⟨b, Ai, m, ci, g1, g2, g3⟩ := h4 k hk
  obtain ⟨ad', e, hb, hc⟩ := (Reads.of_own h3).2 (by omega)
  injection e with e
  subst e
  obtain ⟨f1, f2⟩ := flat2_get h2 g1
  exact ⟨b, Ai, m, ci, hc _ _ f1, hc _ _ f2, g1, g2, g3⟩
theorem XRow.mk_ {w w' : World} {B H n c bz ch : Nat} {A A' Ah : Option Addr} {c' m : Nat} {hl : List UInt8} {L : List (Nat × List UInt8)} {v : Value} (hv : OwV w B H A n c L)
    (ho : OwU w B Ah hl.length hl) (hcap : hl.length ≤ 9223372036854775807) (hown : w.ownsRow B 75 2 v m [.int .u64 (bz : Int), .slice Ah hl.length ch]) (hg : w.grownBy w' v.ownBlock) :
    ∀ vs : List (List Value), vs.length = n → (∀ u ∈ vs, u.length = 2) → (∀ (k : Nat) (p : Nat × List UInt8), L[k]? = some p → ∃ Ai ci, vs[k]? = some [.int .u64 (p.1 : Int), .slice Ai p.2.length ci] ∧ OwU w B Ai p.2.length p.2 ∧ (∀ g, (Value.slice Ai p.2.length ci).ownBlock = some g → g < H) ∧ (p.2.length ≤ ci ∧ ci ≤ 9223372036854775807) ∧ p.1 < 18446744073709551616) →
      w'.ownsRow B 75 2 (.slice A' (1 + n) c') (1 + n) ([.int .u64 (bz : Int), .slice Ah hl.length ch] ++ vs.flatten) → XRow w' B A' (1 + n) c' ([.int .u64 (bz : Int), .slice Ah hl.length ch] :: vs) := by
  intro vs h2 h3 h5 hn
  have hne : 5 ≠ 75 := by decide
  refine ⟨by simp [h2]; omega, fun u hu => ?_, by simpa using hn, fun k hk => ?_⟩
  · rcases List.mem_cons.1 hu with rfl | hu
    · rfl
    · exact h3 u hu
  · rcases k with _ | k
    · exact ⟨_, Ah, _, ch, rfl, hcap, (ho.grow hown hne hg).byt⟩
    · have hL : k < L.length := by rw [hv.1]; omega
      obtain ⟨Ai, ci, g1, g2, _, g4, _⟩ := h5 k L[k] (List.getElem?_eq_getElem hL)
      exact ⟨_, Ai, _, ci, by simpa using g1, by omega, (g2.grow hown hne hg).byt⟩

end Go.Proofs.Ytldaijkcmnnjpaa
