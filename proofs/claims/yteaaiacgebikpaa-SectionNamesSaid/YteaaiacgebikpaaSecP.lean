/- What Read answers, in plain Lean. No program. -/
import Derived.Test.YteaaiacgebikpaaSec9
namespace Go.Proofs.Yteaaiacgebikpaa
open Go.RowKit Wire Crc
set_option linter.unusedVariables false

/-- The directory, row by row: where the data begins, the rows, the rest, what was read. -/
def rdD : Nat → Nat → List UInt8 → List UInt8 → List (Nat × List UInt8) → List Nat → Option (List (Nat × List UInt8) × List Nat × List UInt8)
  | 0, _, _, r, L, S => some (L, S, r)
  | n + 1, at_, d, r, L, S => if num4 (d.drop 1) ≠ at_ ∨ r.length < num4 (d.drop 5) then none
    else rdD n (at_ + num4 (d.drop 5)) (d.drop 13) (r.drop (num4 (d.drop 5))) (L ++ [((d.getD 0 0).toNat, r.take (num4 (d.drop 5)))]) (S ++ [num4 (d.drop 9)])
def endS : Option (List (Nat × List UInt8) × List Nat × List UInt8) → List (Nat × List UInt8) × Int
  | none => ([], 12)
  | some (L, S, r) => if ordB 0 L = false ∨ r ≠ [] then ([], 12) else if L.map (fun p => nxt 0 p.2) = S then (L, 0) else ([], 22)
def bodS (b : List UInt8) (k : Nat) : List (Nat × List UInt8) × Int :=
  if b.length < 10 + 13 * k then ([], 24) else if num4 (b.drop (6 + 13 * k)) ≠ nxt 0 (b.take (6 + 13 * k)) then ([], 22)
  else endS (rdD k (10 + 13 * k) ((b.take (6 + 13 * k)).drop 6) (b.drop (10 + 13 * k)) [] [])
/-- What Read answers. -/
def redS (b : List UInt8) : List (Nat × List UInt8) × Int :=
  if 200000 < b.length then ([], 4) else if b.length < 10 then ([], 24)
  else if b.take 5 ≠ [87, 82, 67, 75, 1] then ([], 12) else if 7 < (b.getD 5 0).toNat then ([], 12) else bodS b (b.getD 5 0).toNat
theorem rdD_no {n at_ : Nat} {d r : List UInt8} {L : List (Nat × List UInt8)} {S : List Nat} (h : num4 (d.drop 1) ≠ at_ ∨ r.length < num4 (d.drop 5)) : rdD (n + 1) at_ d r L S = none := by rw [rdD, if_pos h]
theorem rdD_yes {n at_ : Nat} {d r : List UInt8} {L : List (Nat × List UInt8)} {S : List Nat} (h : ¬ (num4 (d.drop 1) ≠ at_ ∨ r.length < num4 (d.drop 5))) :
    rdD (n + 1) at_ d r L S = rdD n (at_ + num4 (d.drop 5)) (d.drop 13) (r.drop (num4 (d.drop 5))) (L ++ [((d.getD 0 0).toNat, r.take (num4 (d.drop 5)))]) (S ++ [num4 (d.drop 9)]) := by rw [rdD, if_neg h]
theorem rdD_len {n : Nat} : ∀ {at_ : Nat} {d r : List UInt8} {L : List (Nat × List UInt8)} {S : List Nat} {x : List (Nat × List UInt8) × List Nat × List UInt8}, rdD n at_ d r L S = some x → x.1.length = L.length + n ∧ x.2.1.length = S.length + n := by
  induction n with
  | zero => intro at_ d r L S x h; rw [rdD] at h; injection h with h; subst h; exact ⟨rfl, rfl⟩
  | succ n ih =>
    intro at_ d r L S x h
    by_cases hc : num4 (d.drop 1) ≠ at_ ∨ r.length < num4 (d.drop 5)
    · rw [rdD_no hc] at h; cases h
    · rw [rdD_yes hc] at h
      have := ih h
      simp only [List.length_append, List.length_singleton] at this
      omega
theorem map_at_ne {L : List (Nat × List UInt8)} {S : List Nat} {j s : Nat} {p : Nat × List UInt8} (h1 : L[j]? = some p) (h2 : S[j]? = some s) (h : nxt 0 p.2 ≠ s) : L.map (fun p => nxt 0 p.2) ≠ S := by
  intro e
  rw [← e, List.getElem?_map, h1] at h2
  simp at h2
  exact h h2

end Go.Proofs.Yteaaiacgebikpaa
