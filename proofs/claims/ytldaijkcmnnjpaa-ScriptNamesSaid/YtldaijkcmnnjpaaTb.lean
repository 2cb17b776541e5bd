/- Rows laid one behind the other, and a table of them. Laws over any program; no conditions beyond those that each one states. -/
import Derived.Test.YtldaijkcmnnjpaaRbb
import Derived.Test.YtldaijkcmnnjpaaNm
namespace Go.Proofs.Ytldaijkcmnnjpaa
open Go.RowKit
set_option linter.unusedVariables false

section
variable {α : Type} (t : TypeId) (F : List α → List Value)
/-- The world behind the rows of a table; an empty row takes no block. -/
def allocT (w : World) : List (List α) → World
  | [] => w
  | [] :: ls => allocT w ls
  | (b :: l) :: ls => allocT (w.alloc (.cells (F (b :: l)).toArray t)) ls
/-- The cells of such a table, its first block under the letter g. -/
def rowV {α : Type} (g : Nat) : List (List α) → List Value
  | [] => []
  | [] :: ls => .slice none 0 0 :: rowV g ls
  | (b :: l) :: ls => .slice (some ⟨g, 0, none⟩) (b :: l).length (b :: l).length :: rowV (g + 1) ls
theorem rowV_len {α : Type} : ∀ (ls : List (List α)) (g : Nat), (rowV g ls).length = ls.length
  | [], _ => rfl
  | [] :: ls, g => by simp [rowV, rowV_len ls g]
  | (b :: l) :: ls, g => by simp [rowV, rowV_len ls (g + 1)]
theorem allocT_below : ∀ (ls : List (List α)) (w : World), Below w.heap.size w (allocT t F w ls)
  | [], w => Below.refl _ _
  | [] :: ls, w => allocT_below ls w
  | (b :: l) :: ls, w => by
    have h1 : Below w.heap.size w (w.alloc (.cells (F (b :: l)).toArray t)) := (Below.refl w.heap.size w).alloc (Nat.le_refl _) _
    exact h1.trans ((allocT_below ls _).mono h1.size)
theorem reads_newT (w : World) (t : TypeId) (xs : List Value) (size n : Nat) (hn : xs.length = n * size) : Reads (w.alloc (.cells xs.toArray t)) (w.alloc (.cells xs.toArray t)).heap.size size (some ⟨w.heap.size, 0, none⟩) n xs := by
  refine ⟨by simpa using hn, fun _ => ⟨_, rfl, by simp, fun j u hu => ?_⟩⟩
  have hadd : (⟨w.heap.size, 0, none⟩ : Addr).add j = ⟨w.heap.size, j, none⟩ := by unfold Addr.add; split <;> simp_all
  rw [hadd, (Blk.new w t xs.toArray).cell j]
  simpa using hu
theorem rowV_at {sz : Nat} (hF : ∀ l, (F l).length = l.length * sz) : ∀ (ls : List (List α)) (w : World), (∀ l ∈ ls, l.length ≤ 1000000) → ∀ (k : Nat) (li : List α), ls[k]? = some li →
    ∃ Ai ci, (rowV w.heap.size ls)[k]? = some (.slice Ai li.length ci) ∧ (li.length ≤ ci ∧ ci ≤ 9223372036854775807) ∧ Reads (allocT t F w ls) (allocT t F w ls).heap.size sz Ai li.length (F li)
  | [], _, _, k, li, h => by simp at h
  | [] :: ls, w, hl, 0, li, h => by
    simp at h
    subst h
    have h0 : F [] = [] := List.length_eq_zero_iff.1 (by rw [hF]; simp)
    rw [h0]
    exact ⟨none, 0, rfl, by simp, Reads.none_⟩
  | [] :: ls, w, hl, k + 1, li, h => by
    simp at h
    exact rowV_at hF ls w (fun l hm => hl l (List.mem_cons_of_mem _ hm)) k li h
  | (b :: l) :: ls, w, hl, 0, li, h => by
    simp at h
    subst h
    have h3 := hl (b :: l) List.mem_cons_self
    exact ⟨_, _, rfl, ⟨Nat.le_refl _, by omega⟩, (reads_newT w t (F (b :: l)) sz _ (hF _)).mv (allocT_below t F ls _)⟩
  | (b :: l) :: ls, w, hl, k + 1, li, h => by
    simp at h
    obtain ⟨Ai, ci, h1, h2, h3⟩ := rowV_at hF ls (w.alloc (.cells (F (b :: l)).toArray t)) (fun l hm => hl l (List.mem_cons_of_mem _ hm)) k li h
    rw [alloc_size] at h1
    exact ⟨Ai, ci, h1, h2, h3⟩
end
/-- A table whose rows read by some function F. -/
def RdX {α : Type} (F : List α → List Value) (sz : Nat) (w : World) (A : Option Addr) (n : Nat) (LL : List (List α)) : Prop :=
  LL.length = n ∧ ∃ vs : List Value, Reads w w.heap.size 1 A n vs ∧ ∀ (k : Nat) (li : List α), LL[k]? = some li → ∃ Ai ci, vs[k]? = some (.slice Ai li.length ci) ∧ (li.length ≤ ci ∧ ci ≤ 9223372036854775807) ∧ Reads w w.heap.size sz Ai li.length (F li)
section
variable {α : Type} {F : List α → List Value} {sz : Nat}
theorem RdX.mv {w w' : World} {A : Option Addr} {n : Nat} {LL : List (List α)} (h : RdX F sz w A n LL) (hb : Below w.heap.size w w') : RdX F sz w' A n LL := by
  obtain ⟨h1, vs, h2, h3⟩ := h
  refine ⟨h1, vs, h2.mv hb, fun k li hk => ?_⟩
  obtain ⟨Ai, ci, hv, hc, hr⟩ := h3 k li hk
  exact ⟨Ai, ci, hv, hc, hr.mv hb⟩
/-- A row of the table, the table in block g. -/
theorem RdX.at_ {w : World} {g n : Nat} {LL : List (List α)} (h : RdX F sz w (some ⟨g, 0, none⟩) n LL) {k : Nat} (hk : k < n) :
    ∃ Ai ci li, LL[k]? = some li ∧ w.cell? ⟨g, k, none⟩ = some (.slice Ai li.length ci) ∧ (li.length ≤ ci ∧ ci ≤ 9223372036854775807) ∧ Reads w w.heap.size sz Ai li.length (F li) := by
  obtain ⟨h1, vs, h2, h3⟩ := h
  obtain ⟨ad, u, ha, hb, hx, hc⟩ := h2.at_ hk
  injection ha with ha
  subst ha
  have hl : k < LL.length := by omega
  obtain ⟨Ai, ci, hv, hci, hr⟩ := h3 k LL[k] (List.getElem?_eq_getElem hl)
  rw [hx] at hv
  injection hv with hv
  subst hv
  have hadd : (⟨g, 0, none⟩ : Addr).add k = ⟨g, k, none⟩ := by unfold Addr.add; split <;> simp_all
  rw [hadd] at hc
  exact ⟨Ai, ci, LL[k], List.getElem?_eq_getElem hl, hc, hci, hr⟩
/-- A table of rows, its rows laid ahead of it. -/
theorem rdX_tab {w w1 : World} {t t2 : TypeId} (hF : ∀ l, (F l).length = l.length * sz) (LL : List (List α)) (hl : ∀ l ∈ LL, l.length ≤ 1000000) (h : allocT t F w LL = w1) {cs : Array Value} (hc : cs = (rowV w.heap.size LL).toArray) :
    RdX F sz (w1.alloc (.cells cs t2)) (some ⟨w1.heap.size, 0, none⟩) LL.length LL ∧ Below w.heap.size w (w1.alloc (.cells cs t2)) := by
  subst h hc
  have hb := allocT_below t F LL w
  refine ⟨⟨rfl, rowV w.heap.size LL, reads_newT _ t2 _ 1 _ (by rw [rowV_len, Nat.mul_one]), fun k li hk => ?_⟩, hb.alloc hb.size _⟩
  obtain ⟨Ai, ci, h1, h2, h3⟩ := rowV_at t F hF LL w hl k li hk
  exact ⟨Ai, ci, h1, h2, h3.mv ((Below.refl _ _).alloc (Nat.le_refl _) _)⟩
end
end Go.Proofs.Ytldaijkcmnnjpaa
