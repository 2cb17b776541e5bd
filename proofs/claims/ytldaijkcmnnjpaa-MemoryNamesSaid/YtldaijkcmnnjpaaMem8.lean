/- Contracts and laws of a chapter that its statement of names leans on. Each states its conditions. -/
import Derived.Test.YtldaijkcmnnjpaaMem6
import Derived.Test.YtldaijkcmnnjpaaRet3
namespace Go.Proofs.Ytldaijkcmnnjpaa
open Go.RowKit Wire
set_option linter.unusedVariables false
theorem slRG : IsSl Try.prog 76 75 (.agg #[.int .u64 0, .slice none 0 0]) 2 32 := ⟨Try.underlying76, by kernel_rfl, rfl, by omega, by omega⟩
/-- Regions that a call has made: the row, and the bytes of each. -/
def OwR (w : World) (B : Nat) (A : Option Addr) (n c : Nat) (L : List (Nat × List UInt8)) : Prop :=
  L.length = n ∧ ∃ vs : List (List Value), vs.length = n ∧ (∀ u ∈ vs, u.length = 2 ∧ ∀ v ∈ u, v.oneCell' = true) ∧ w.ownsRow B 75 2 (.slice A n c) n vs.flatten ∧
    ∀ (k : Nat) (p : Nat × List UInt8), L[k]? = some p → ∃ Ai ci, vs[k]? = some [.int .u64 (p.1 : Int), .slice Ai p.2.length ci] ∧ w.ownsRow B 5 1 (.slice Ai p.2.length ci) p.2.length (p.2.map b8) ∧ p.1 < 18446744073709551616
theorem OwR.rd {w : World} {B n c : Nat} {A : Option Addr} {L : List (Nat × List UInt8)} (h : OwR w B A n c L) : RdR w A n L := by
  obtain ⟨h1, vs, h2, h3, h4, h5⟩ := h
  refine ⟨h1, vs, h2, fun u hu => (h3 u hu).1, Reads.of_own h4, fun k p hp => ?_⟩
  obtain ⟨Ai, ci, g1, g2, g3⟩ := h5 k p hp
  exact ⟨Ai, ci, g1, own_cap g2, own_rd g2, g3⟩
theorem OwR.call {w w' : World} {B n c : Nat} {A : Option Addr} {L : List (Nat × List UInt8)} (h : OwR w B A n c L) (b : Below w.heap.size w w') : OwR w' B A n c L := by
  obtain ⟨h1, vs, h2, h3, h4, h5⟩ := h
  refine ⟨h1, vs, h2, h3, own_call h4 b, fun k p hp => ?_⟩
  obtain ⟨Ai, ci, g1, g2, g3⟩ := h5 k p hp
  exact ⟨Ai, ci, g1, own_call g2 b, g3⟩
theorem OwR.nil (w : World) (B : Nat) : OwR w B none 0 0 [] :=
  ⟨rfl, [], rfl, by simp, World.ownsRow_nil _ _ _ _, fun k p hp => by simp at hp⟩
/-- A row of another type is not the block that grows. -/
theorem own_grow {w w' : World} {base base' : Nat} {e e' : TypeId} {size size' n n' : Nat} {v v' : Value} {xs xs' : List Value} (h : w.ownsRow base e size v n xs) (h' : w.ownsRow base' e' size' v' n' xs') (hne : e ≠ e') (hg : w.grownBy w' v'.ownBlock) : w'.ownsRow base e size v n xs := by
  refine h.kept hg ?_
  rcases h.2 with ⟨rfl, _⟩ | ⟨g, cap, cur, rfl, _, hh, _⟩
  · exact .inl rfl
  · refine .inr fun he => ?_
    rcases h'.2 with ⟨rfl, _⟩ | ⟨g', cap', cur', rfl, _, hh', _⟩
    · simp [Value.ownBlock] at he
    · simp [Value.ownBlock] at he
      subst he
      rw [hh] at hh'
      injection hh' with hh'
      injection hh' with _ ht
      exact hne ht
theorem reads_two (w : World) (u v : Value) (e : TypeId) : Reads (w.alloc (.cells #[u, v] e)) (w.alloc (.cells #[u, v] e)).heap.size 2 (some ⟨w.heap.size, 0, none⟩) 1 [u, v] := by
  refine ⟨rfl, fun _ => ⟨_, rfl, by simp, fun j x hx => ?_⟩⟩
  have hadd : (⟨w.heap.size, 0, none⟩ : Addr).add j = ⟨w.heap.size, j, none⟩ := by unfold Addr.add; split <;> simp_all
  rw [hadd, (Blk.new w e #[u, v]).cell j]
  simpa using hx
theorem OwR.snoc {w w' : World} {B n c : Nat} {A : Option Addr} {L : List (Nat × List UInt8)} {p : Nat × List UInt8} {Ai : Option Addr} {ci c' : Nat} {A' : Option Addr} {vs : List (List Value)}
    (h1 : L.length = n) (h2 : vs.length = n) (h3 : ∀ u ∈ vs, u.length = 2 ∧ ∀ v ∈ u, v.oneCell' = true) (h4 : w.ownsRow B 75 2 (.slice A n c) n vs.flatten)
    (h5 : ∀ (k : Nat) (p : Nat × List UInt8), L[k]? = some p → ∃ Ai ci, vs[k]? = some [.int .u64 (p.1 : Int), .slice Ai p.2.length ci] ∧ w.ownsRow B 5 1 (.slice Ai p.2.length ci) p.2.length (p.2.map b8) ∧ p.1 < 18446744073709551616)
    (ho : w.ownsRow B 5 1 (.slice Ai p.2.length ci) p.2.length (p.2.map b8)) (hp : p.1 < 18446744073709551616)
    (hn : w'.ownsRow B 75 2 (.slice A' (n + 1) c') (n + 1) (vs.flatten ++ [.int .u64 (p.1 : Int), .slice Ai p.2.length ci])) (hg : w.grownBy w' (Value.slice A n c).ownBlock) : OwR w' B A' (n + 1) c' (L ++ [p]) := by
  have hne : 5 ≠ 75 := by decide
  refine ⟨by simp [h1], vs ++ [[.int .u64 (p.1 : Int), .slice Ai p.2.length ci]], by simp [h2], fun u hu => ?_, by simpa using hn, fun k q hq => ?_⟩
  · rcases List.mem_append.1 hu with h | h
    · exact h3 u h
    · simp at h; subst h; simp [Value.oneCell']
  · by_cases hk : k < n
    · rw [List.getElem?_append_left (by omega)] at hq ⊢
      obtain ⟨Aj, cj, g1, g2, g3⟩ := h5 k q hq
      exact ⟨Aj, cj, g1, own_grow g2 h4 hne hg, g3⟩
    · rw [List.getElem?_append_right (by omega)] at hq
      have hk0 : k - L.length = 0 := by
        rcases Nat.eq_zero_or_pos (k - L.length) with h | h
        · exact h
        · rw [List.getElem?_eq_none (by simp; omega)] at hq; cases hq
      rw [hk0] at hq
      simp at hq
      subst hq
      obtain rfl : k = n := by omega
      exact ⟨Ai, ci, by rw [List.getElem?_append_right (by omega), h2]; simp, own_grow ho h4 hne hg, hp⟩

end Go.Proofs.Ytldaijkcmnnjpaa
