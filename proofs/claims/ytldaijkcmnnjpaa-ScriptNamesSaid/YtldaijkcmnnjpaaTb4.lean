/- A row that make gives, as a block that the walk stores into. Laws over any program; no conditions beyond those that each one states. -/
import Derived.Test.YtldaijkcmnnjpaaTb3
import Derived.Test.YtldaijkcmnnjpaaArr
namespace Go.Proofs.Ytldaijkcmnnjpaa
open Go.RowKit
set_option linter.unusedVariables false

theorem Blk.mv {w w' : World} {g : Nat} {t : TypeId} {cs : Array Value} (h : Blk w g t cs) (b : Below w.heap.size w w') : Blk w' g t cs := h.below b h.lt
theorem own_blk {w : World} {base g n : Nat} {e : TypeId} {xs : List Value} (h : w.ownsRow base e 1 (.slice (some ⟨g, 0, none⟩) n n) n xs) : Blk w g e xs.toArray := by
  rcases h.2 with ⟨hv, _⟩ | ⟨g', cap, cur, hv, _, hh, _, _, hs, ht⟩
  · cases hv
  · injection hv with h1 h2 h3
    injection h1 with h1
    injection h1 with h1
    subst h1 h3
    rw [List.take_of_length_le (by simp; omega)] at ht
    rw [← ht]
    exact hh
theorem reads_ofBlk {w : World} {g : Nat} {t : TypeId} {cs : Array Value} (h : Blk w g t cs) (size n : Nat) (hn : cs.size = n * size) : Reads w w.heap.size size (some ⟨g, 0, none⟩) n cs.toList := by
  refine ⟨by simpa using hn, fun _ => ⟨_, rfl, h.lt, fun j u hu => ?_⟩⟩
  have hadd : (⟨g, 0, none⟩ : Addr).add j = ⟨g, j, none⟩ := by unfold Addr.add; split <;> simp_all
  rw [hadd, h.cell j]
  simpa using hu
theorem arr_rep (k : IntKind) (n v : Nat) : arr k n (fun _ => v) = (List.replicate n (Value.int k (v : Int))).toArray := by
  unfold arr
  rw [List.map_const', List.length_range]
/-- The first places hold v, the others 0. -/
def upto (v k i : Nat) : Nat := if i < k then v else 0
theorem upto_zero (k : IntKind) (n v : Nat) : arr k n (upto v 0) = (List.replicate n (Value.int k 0)).toArray := by
  rw [show upto v 0 = fun _ => 0 from funext fun i => by simp [upto], arr_rep]; rfl
theorem upto_set (k : IntKind) (n v j : Nat) : (arr k n (upto v j)).setIfInBounds j (.int k (v : Int)) = arr k n (upto v (j + 1)) := by
  rw [arr_set]
  refine arr_congr fun i h => ?_
  unfold upto
  by_cases e : i = j
  · subst e; simp
  · rw [if_neg e]
    by_cases h2 : i < j
    · rw [if_pos h2, if_pos (by omega)]
    · rw [if_neg h2, if_neg (by omega)]
theorem upto_all (k : IntKind) (n v : Nat) : arr k n (upto v n) = (List.replicate n (Value.int k (v : Int))).toArray := by
  rw [← arr_rep]
  exact arr_congr fun i h => by simp [upto, h]
end Go.Proofs.Ytldaijkcmnnjpaa
