/- Structs and slices of structs, opened: what a value that can be read as data looks like to a walk. No conditions beyond those that each one states. -/
import Derived.Test.YtldaijkcmnnjpaaOpen
import Derived.ChangeArms
namespace Go.Proofs.Ytldaijkcmnnjpaa
open Go.ChangeShapes Go.WideShapes Go.ChangeAt Go.RowKit
open Go.Deep (open_slice oneCellFields)
set_option linter.unusedVariables false

theorem flat_len {k : Nat} : ∀ {vs : List (List Value)}, (∀ u ∈ vs, u.length = k) → vs.flatten.length = vs.length * k
  | [], _ => by simp
  | u :: vs, h => by
    have h1 := h u (by simp)
    have h2 := flat_len (k := k) (vs := vs) (fun x hx => h x (by simp [hx]))
    rw [List.flatten_cons, List.length_append, h2, h1, List.length_cons, Nat.add_mul]; omega
theorem flat_one {α : Type} (f : α → Value) (xs : List α) : (xs.map fun a => [f a]).flatten = xs.map f := by
  induction xs with
  | nil => rfl
  | cons z xs ih => rw [List.map_cons, List.flatten_cons, ih]; rfl
theorem flat_get {k : Nat} (hk : 0 < k) : ∀ {vs : List (List Value)}, (∀ u ∈ vs, u.length = k) → ∀ j, vs.flatten[j]? = (vs[j / k]?).bind (·[j % k]?)
  | [], _, j => by simp
  | u :: vs, h, j => by
    have h1 := h u (by simp)
    have h2 := flat_get hk (vs := vs) (fun x hx => h x (by simp [hx]))
    rw [List.flatten_cons]
    by_cases hj : j < k
    · rw [List.getElem?_append_left (by omega), Nat.div_eq_of_lt hj, Nat.mod_eq_of_lt hj]; rfl
    · rw [List.getElem?_append_right (by omega), h1, h2 (j - k)]
      have e1 : j / k = (j - k) / k + 1 := by
        have := Nat.div_eq_sub_div hk (by omega : k ≤ j)
        exact this
      have e2 : j % k = (j - k) % k := by rw [Nat.mod_eq_sub_mod (by omega)]
      rw [e1, e2, List.getElem?_cons_succ]
section
variable {H : Type} {enc : TypeId × Value → H} {P : Program} {W : World} {base b0 : Nat} {r : Reach} {spare : Nat → Bool} {held : Bool} {v : Value} {d : DataW H} {p : List MemPlace} {t e : TypeId} {fuel : Nat} {cs : List Value} {x : DataW H × List MemPlace}
theorem rd_i64 (ht : P.underlying t = some (.int .i64)) (h : DataW.trod enc P W base spare held fuel t cs = some x) : ∃ a : Int, cs = [.int .i64 a] ∧ (-9223372036854775808 ≤ a ∧ a ≤ 9223372036854775807) := by
  obtain ⟨a, ha, _, wa⟩ := DataW.trod_int ht h
  simp [Lit.wf, IntKind.min, IntKind.max, IntKind.bits, IntKind.signed] at wa
  exact ⟨a, ha, by omega⟩
theorem rd_u64 (ht : P.underlying t = some (.int .u64)) (h : DataW.trod enc P W base spare held fuel t cs = some x) : ∃ a : Nat, cs = [.int .u64 (a : Int)] ∧ a < 18446744073709551616 := by
  obtain ⟨a, ha, _, wa⟩ := DataW.trod_int ht h
  simp [Lit.wf, IntKind.min, IntKind.max, IntKind.bits, IntKind.signed] at wa
  exact ⟨a.toNat, by rw [Int.toNat_of_nonneg (by omega)]; exact ha, by omega⟩
theorem rd_u8 (ht : P.underlying t = some (.int .u8)) (h : DataW.trod enc P W base spare held fuel t cs = some x) : ∃ a : Nat, cs = [.int .u8 (a : Int)] ∧ a < 256 := by
  obtain ⟨a, ha, _, wa⟩ := DataW.trod_int ht h
  simp [Lit.wf, IntKind.min, IntKind.max, IntKind.bits, IntKind.signed] at wa
  exact ⟨a.toNat, by rw [Int.toNat_of_nonneg (by omega)]; exact ha, by omega⟩
/-- A struct's fields, each by itself. -/
theorem rd_fields {fs : Array Field} (ht : P.underlying t = some (.struct fs)) (h : DataW.trod enc P W base spare held fuel t cs = some x) :
    cs.length = P.cellsOf t ∧ ∃ n, ∀ (i : Nat) (f : Field), fs[i]? = some f → ∃ y, DataW.trod enc P W base spare held n f.type ((cs.drop f.offset).take (P.cellsOf f.type)) = some y := by
  obtain ⟨xs, n, _, _, hl, hxl, hf⟩ := DataW.trod_struct ht h
  refine ⟨hl, n, fun i f hi => ?_⟩
  have h1 := hf i f hi
  have hlt : i < xs.length := by rw [hxl]; exact (Array.getElem?_eq_some_iff.1 hi).1
  rw [List.getElem?_eq_getElem hlt] at h1
  exact ⟨_, h1⟩
/-- A slice whose elements each read as something. -/
theorem rd_slice {α : Type} (R : α → List Value → Prop) {k : Nat} (ht : P.underlying t = some (.slice e)) (hC : P.cellsOf e = k) (hk : 0 < k)
    (hE : ∀ (fuel' : Nat) (cs' : List Value) (x' : DataW H × List MemPlace), DataW.trod enc P W base spare held fuel' e cs' = some x' → ∃ a, R a cs')
    (hf : DataW.trod enc P W base spare held fuel t cs = some x) :
    ∃ (A : Option Addr) (n c : Nat) (xs : List α) (vs : List (List Value)), cs = [.slice A n c] ∧ xs.length = n ∧ vs.length = n ∧ Reads W W.heap.size k A n vs.flatten ∧
      (∀ (i : Nat) (a : α), xs[i]? = some a → ∃ u, vs[i]? = some u ∧ R a u ∧ u.length = k) ∧ (n ≤ c ∧ c ≤ 9223372036854775807) := by
  rcases open_slice ht hf with ⟨hcs, _⟩ | ⟨a, len, cap, m, k0, D, Pl, hcs, _, hl, hm, hmm, _, hi⟩
  · exact ⟨_, _, _, [], [], hcs, rfl, rfl, Reads.none_, fun i a h => by simp at h, by omega⟩
  · unfold maxLen at hm
    have hml : len ≤ m := by rw [hmm]; split <;> omega
    have hel : ∀ i, i < len → ∃ (u : List Value) (q : α), R q u ∧ u.length = k ∧ ∀ j, j < k → W.cell? (a.add (i * k + j)) = u[j]? := fun i hi' => by
      obtain ⟨cs', hc, ht'⟩ := hi i (by omega)
      rw [hC] at hc
      obtain ⟨_, hcl, hat⟩ := World.cells?_some hc
      obtain ⟨q, hq⟩ := hE _ _ _ ht'
      refine ⟨cs', q, hq, hcl, fun j hj => ?_⟩
      have h0 := hat j hj
      rw [add_of_add] at h0
      exact h0
    have hch : ∀ q, q ≤ len → ∃ (xs : List α) (vs : List (List Value)), xs.length = q ∧ vs.length = q ∧ (∀ u ∈ vs, u.length = k) ∧
        ∀ i, i < q → ∃ a' u, xs[i]? = some a' ∧ vs[i]? = some u ∧ R a' u ∧ ∀ j, j < k → W.cell? (a.add (i * k + j)) = u[j]? := by
      intro q
      induction q with
      | zero => intro _; exact ⟨[], [], rfl, rfl, by simp, fun i hi => absurd hi (by omega)⟩
      | succ q ih =>
        intro hq
        obtain ⟨xs, vs, h1, h2, h3, h4⟩ := ih (by omega)
        obtain ⟨u, z, hz, hu, hc⟩ := hel q (by omega)
        refine ⟨xs ++ [z], vs ++ [u], by simp [h1], by simp [h2], fun u' hu' => ?_, fun i hi => ?_⟩
        · rw [List.mem_append] at hu'
          rcases hu' with h | h
          · exact h3 u' h
          · rw [List.mem_singleton] at h; rw [h]; exact hu
        · by_cases hiq : i < q
          · obtain ⟨a', u', g1, g2, g3, g4⟩ := h4 i hiq
            exact ⟨a', u', by rw [List.getElem?_append_left (by omega)]; exact g1, by rw [List.getElem?_append_left (by omega)]; exact g2, g3, g4⟩
          · obtain rfl : i = q := by omega
            exact ⟨z, u, by rw [← h1]; simp, by rw [← h2]; simp, hz, hc⟩
    obtain ⟨xs, vs, h1, h2, h3, h4⟩ := hch len (Nat.le_refl _)
    refine ⟨some a, len, cap, xs, vs, hcs, h1, h2, ⟨by rw [flat_len h3, h2], fun h0 => ⟨a, rfl, ?_, fun j u hu => ?_⟩⟩, fun i a' hi => ?_, by omega⟩
    · obtain ⟨a', u, _, hv, _, hc⟩ := h4 0 h0
      have hul : u.length = k := h3 u (List.mem_of_getElem? hv)
      have hc0 := hc 0 hk
      rw [List.getElem?_eq_getElem (by omega)] at hc0
      have := World.block_lt_of_cell? W _ hc0
      simpa [block_of_add] using this
    · have hj : j < vs.flatten.length := (List.getElem?_eq_some_iff.1 hu).1
      rw [flat_len h3, h2] at hj
      have hq : j / k < len := Nat.div_lt_of_lt_mul (by rw [Nat.mul_comm]; exact hj)
      obtain ⟨a', u', _, hv, _, hc⟩ := h4 (j / k) hq
      have hc0 := hc (j % k) (Nat.mod_lt _ hk)
      rw [show j / k * k + j % k = j from Nat.div_add_mod' j k] at hc0
      rw [hc0, ← hu, flat_get hk h3 j, hv]; rfl
    · have hi' : i < len := by rw [← h1]; exact (List.getElem?_eq_some_iff.1 hi).1
      obtain ⟨a2, u, g1, g2, g3, _⟩ := h4 i hi'
      rw [hi] at g1
      injection g1 with g1
      subst g1
      exact ⟨u, g2, g3, h3 u (List.mem_of_getElem? g2)⟩
/-- A script. -/
theorem opn_scr {f0 f1 g0 g1 g2 g3 : Field} (hs : P.underlying t = some (.struct #[f0, f1])) (hCt : P.cellsOf t = 5) (hl : P.underlying f1.type = some (.struct #[g0, g1, g2, g3]))
    (o0 : f0.offset = 0) (k0 : P.cellsOf f0.type = 1) (o1 : f1.offset = 1) (k1 : P.cellsOf f1.type = 4) (ht0 : P.underlying f0.type = some (.slice e)) (he : P.underlying e = some (.int .i64)) (hC : P.cellsOf e = 1)
    (p0 : g0.offset = 0) (p1 : g1.offset = 1) (p2 : g2.offset = 2) (p3 : g3.offset = 3) (q0 : g0.type = e) (q1 : g1.type = e) (q2 : g2.type = e) (q3 : g3.type = e)
    (hv : Value.okWide P W r b0 t v) (h : DataW.Trod enc P W base spare held t v d p) :
    ∃ (A : Option Addr) (n c : Nat) (l : List Int) (a1 a2 a3 a4 : Int), v = .agg #[.slice A n c, .int .i64 a1, .int .i64 a2, .int .i64 a3, .int .i64 a4] ∧ Reads W W.heap.size 1 A n (l.map (Value.int .i64)) ∧ (n ≤ c ∧ c ≤ 9223372036854775807) ∧
      (-9223372036854775808 ≤ a1 ∧ a1 ≤ 9223372036854775807) ∧ (-9223372036854775808 ≤ a2 ∧ a2 ≤ 9223372036854775807) ∧ (-9223372036854775808 ≤ a3 ∧ a3 ≤ 9223372036854775807) ∧ (-9223372036854775808 ≤ a4 ∧ a4 ≤ 9223372036854775807) := by
  obtain ⟨⟨cs⟩, rfl, hsz⟩ := okWide_struct hs hv
  obtain ⟨fuel, hf⟩ := h
  simp only [Value.cells] at hf
  obtain ⟨_, n, hfs⟩ := rd_fields hs hf
  rw [hCt] at hsz
  match cs, hsz with
  | [c0, c1, c2, c3, c4], _ =>
    obtain ⟨y0, h0⟩ := hfs 0 f0 rfl
    obtain ⟨y1, h1⟩ := hfs 1 f1 rfl
    rw [o0, k0] at h0
    rw [o1, k1] at h1
    obtain ⟨_, n1, hgs⟩ := rd_fields hl h1
    obtain ⟨z0, i0⟩ := hgs 0 g0 rfl
    obtain ⟨z1, i1⟩ := hgs 1 g1 rfl
    obtain ⟨z2, i2⟩ := hgs 2 g2 rfl
    obtain ⟨z3, i3⟩ := hgs 3 g3 rfl
    rw [p0, q0, hC] at i0
    rw [p1, q1, hC] at i1
    rw [p2, q2, hC] at i2
    rw [p3, q3, hC] at i3
    obtain ⟨a1, e1, w1⟩ := rd_i64 he i0
    obtain ⟨a2, e2, w2⟩ := rd_i64 he i1
    obtain ⟨a3, e3, w3⟩ := rd_i64 he i2
    obtain ⟨a4, e4, w4⟩ := rd_i64 he i3
    simp at e1 e2 e3 e4
    obtain ⟨A, m, c, xs, vs, hcs, hx, hvl, hr, hR, hc⟩ := rd_slice (fun a u => u = [Value.int .i64 a]) ht0 hC (by omega) (fun f' cs' x' hh => by obtain ⟨a, ha, _⟩ := rd_i64 he hh; exact ⟨a, ha⟩) h0
    simp at hcs
    have hfl : vs.flatten = xs.map (Value.int .i64) := by
      have : vs = xs.map fun a => [Value.int .i64 a] := by
        apply List.ext_getElem?
        intro i
        rw [List.getElem?_map]
        by_cases hi : i < xs.length
        · obtain ⟨u, g1, g2, _⟩ := hR i _ (List.getElem?_eq_getElem hi)
          rw [g1, List.getElem?_eq_getElem hi, g2]; rfl
        · rw [List.getElem?_eq_none (by omega), List.getElem?_eq_none (by omega)]; rfl
      rw [this, flat_one]
    rw [hfl] at hr
    subst hcs e1 e2 e3 e4
    exact ⟨A, m, c, xs, a1, a2, a3, a4, rfl, hr, hc, w1, w2, w3, w4⟩
end
end Go.Proofs.Ytldaijkcmnnjpaa
