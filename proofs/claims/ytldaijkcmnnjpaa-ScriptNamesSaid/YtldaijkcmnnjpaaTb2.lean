/- Tables of structs, read at an index; rows and tables of rows made whole. Laws over any program; no conditions beyond those that each one states. -/
import Derived.Test.YtldaijkcmnnjpaaTb
import Derived.Test.YtldaijkcmnnjpaaInv
namespace Go.Proofs.Ytldaijkcmnnjpaa
open Go.RowKit
set_option linter.unusedVariables false

theorem flS {α : Type} (f : α → List Value) (sz : Nat) (hf : ∀ a, (f a).length = sz) : ∀ (L : List α) (j k : Nat), k < sz → (L.map f).flatten[j * sz + k]? = (L[j]?).bind fun a => (f a)[k]?
  | [], j, k, _ => by simp
  | x :: L, 0, k, hk => by
    simp only [List.map_cons, List.flatten_cons, Nat.zero_mul, Nat.zero_add]
    rw [List.getElem?_append_left (by rw [hf]; exact hk)]
    rfl
  | x :: L, j + 1, k, hk => by
    simp only [List.map_cons, List.flatten_cons]
    have e : (j + 1) * sz = j * sz + sz := by rw [Nat.add_mul, Nat.one_mul]
    rw [List.getElem?_append_right (by rw [hf, e]; omega), hf, show (j + 1) * sz + k - sz = j * sz + k from by rw [e]; omega, flS f sz hf L j k hk]
    rfl
/-- The cells of a table's struct. -/
theorem stru_at {α : Type} {w : World} {g : Nat} {t : TypeId} {L : List α} {cs : Array Value} (f : α → List Value) (sz : Nat) (hf : ∀ a, (f a).length = sz) (h : Blk w g t cs) (hc : cs = (L.map f).flatten.toArray) {j : Nat} {x : α} (hj : L[j]? = some x) :
    ∀ k, k < sz → w.cell? ⟨g, j * sz + k, none⟩ = (f x)[k]? := fun k hk => by
  subst hc
  rw [h.cell, List.getElem?_toArray, flS f sz hf L j k hk, hj]; rfl
/-- One struct of a table, as a slice of one. -/
theorem stru_reads {α : Type} {w : World} {g : Nat} {t : TypeId} {L : List α} {cs : Array Value} (f : α → List Value) (sz : Nat) (hf : ∀ a, (f a).length = sz) (h : Blk w g t cs) (hc : cs = (L.map f).flatten.toArray) {j : Nat} {x : α} (hj : L[j]? = some x) :
    Reads w w.heap.size sz (some ⟨g, j * sz, none⟩) 1 (f x) := by
  refine ⟨by rw [hf, Nat.one_mul], fun _ => ⟨_, rfl, h.lt, fun k u hu => ?_⟩⟩
  have hadd : (⟨g, j * sz, none⟩ : Addr).add k = ⟨g, j * sz + k, none⟩ := by unfold Addr.add; split <;> simp_all
  have hk : k < sz := by rw [← hf x]; exact (List.getElem?_eq_some_iff.1 hu).1
  rw [hadd, stru_at f sz hf h hc hj k hk, hu]
theorem slice_at {P : Program} {t e : TypeId} {sz : Nat} (ht : P.underlying t = some (.slice e)) (hs : ∀ w, (sizeOf e).run P w = .ok sz w) (g n c i v : Nat) {k1 k2 : IntKind} {a b : Int} (ha : a = i) (hb : b = i + v) (hc : i + v ≤ c) (h0 : i < c) (W : World) :
    (Instr.slice t (.slice (some ⟨g, 0, none⟩) n c) (some (.int k1 a)) (some (.int k2 b)) none).run P W = .ok (.slice (some ⟨g, i * sz, none⟩) v (c - i)) W := by
  have ht' : P.underlying t = some (.slice (P.elem t)) := by rw [elem_of ht]; exact ht
  rw [run_slice_lh W t (some ⟨g, 0, none⟩) n c ht' k1 k2 a b (by omega) (by omega) (by omega), elem_of ht, hs]
  simp only [Result.andThen, sliced]
  rw [show a.toNat = i from by omega, show b.toNat = i + v from by omega, show i + v - i = v from by omega, if_neg (by omega)]
  have hadd : (⟨g, 0, none⟩ : Addr).add (i * sz) = ⟨g, i * sz, none⟩ := by unfold Addr.add; split <;> simp_all
  simp [hadd]
/-- A slice literal inside a region. -/
theorem wp_row {P : Program} {o : Oper} {a : Act} {w : World} {K : Act → World → Prop} {Q : Exit → Act → World → Prop} {t e : TypeId} {z : Value} {size bytes : Nat} (hsl : IsSl P t e z size bytes) (n : Nat) (parts : Array (Nat × Operand)) (ho : o.op = .buildSlice t n parts)
    (vals : List (Nat × Value)) (hv : (parts.map fun (i, x) => (i, a.eval x)).toList = vals) (cells : Array Value) (hn : 0 < n * size) (hn2 : n * size ≤ 2 ^ 24)
    (hf : Instr.fill (fun i => some (i * size, size)) ((Array.range (n * size)).map (z.cells[· % z.cells.size]!)) vals = some cells)
    (h : K (a.put o.dst (.slice (some ⟨w.heap.size, 0, none⟩) n n)) (w.alloc (.cells cells e))) : o.wp P a w K Q := by
  obtain ⟨i0, hi0, hz0, hz1, hz2⟩ := info_parts hsl.hi
  refine wp_buildSlice t e n parts ho cells i0 z hsl.ht hi0 hz0 (by rw [hz1]; omega) (by rw [hz1]; omega) ?_ h
  rw [hv, hz1]
  exact hf
end Go.Proofs.Ytldaijkcmnnjpaa
