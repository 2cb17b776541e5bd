/- The arguments of the statements, opened: what a value that can be read as data looks like to a walk. No conditions beyond those that each one states. -/
import Derived.Test.YtkhdeoihjnpnaaaArr
import Derived.Test.YtkhdeoihjnpnaaaRbb
import Derived.ProofKit
import Derived.OpenShut
import Derived.ShutString
import Derived.ChangeOld
import Derived.Below
import Derived.Deep.Slices
import Derived.Lib.SmallJoins
namespace Go.Proofs.Ytkhdeoihjnpnaaa
open Go.ChangeShapes Go.WideShapes Go.ChangeAt Go.RowKit
open Go.ChangeMaps (open_string shut_string)
open Go.Deep (open_slice oneCellFields)
set_option linter.unusedVariables false

section
variable {H : Type} {enc : TypeId × Value → H} {P : Program} {W : World} {base b0 : Nat} {r : Reach} {spare : Nat → Bool} {held : Bool} {v : Value} {d : DataW H} {p : List MemPlace} {t e : TypeId}

theorem opn_i64 (ht : P.underlying t = some (.int .i64)) (hv : Value.okWide P W r b0 t v) (h : DataW.Trod enc P W base spare held t v d p) :
    ∃ a : Int, v = .int .i64 a ∧ (-9223372036854775808 ≤ a ∧ a ≤ 9223372036854775807) := by
  obtain ⟨x, rfl, _, _, wx⟩ := open_int ht hv h
  refine ⟨x, rfl, ?_⟩
  simp [Lit.wf, IntKind.min, IntKind.max, IntKind.bits, IntKind.signed] at wx
  omega
theorem opn_u64 (ht : P.underlying t = some (.int .u64)) (hv : Value.okWide P W r b0 t v) (h : DataW.Trod enc P W base spare held t v d p) :
    ∃ a : Nat, v = .int .u64 (a : Int) ∧ a < 18446744073709551616 := by
  obtain ⟨x, rfl, _, _, wx⟩ := open_int ht hv h
  simp [Lit.wf, IntKind.min, IntKind.max, IntKind.bits, IntKind.signed] at wx
  exact ⟨x.toNat, by rw [Int.toNat_of_nonneg (by omega)], by omega⟩
theorem opn_u32 (ht : P.underlying t = some (.int .u32)) (hv : Value.okWide P W r b0 t v) (h : DataW.Trod enc P W base spare held t v d p) :
    ∃ a : Nat, v = .int .u32 (a : Int) ∧ a < 4294967296 := by
  obtain ⟨x, rfl, _, _, wx⟩ := open_int ht hv h
  simp [Lit.wf, IntKind.min, IntKind.max, IntKind.bits, IntKind.signed] at wx
  exact ⟨x.toNat, by rw [Int.toNat_of_nonneg (by omega)], by omega⟩
theorem opn_u8 (ht : P.underlying t = some (.int .u8)) (hv : Value.okWide P W r b0 t v) (h : DataW.Trod enc P W base spare held t v d p) :
    ∃ a : Nat, v = .int .u8 (a : Int) ∧ a < 256 := by
  obtain ⟨x, rfl, _, _, wx⟩ := open_int ht hv h
  simp [Lit.wf, IntKind.min, IntKind.max, IntKind.bits, IntKind.signed] at wx
  exact ⟨x.toNat, by rw [Int.toNat_of_nonneg (by omega)], by omega⟩
theorem opn_bool (ht : P.underlying t = some .bool) (hv : Value.okWide P W r b0 t v) (h : DataW.Trod enc P W base spare held t v d p) : ∃ a : Bool, v = .bool a := by
  obtain ⟨x, rfl, _⟩ := open_bool ht hv h
  exact ⟨x, rfl⟩
theorem opn_str (ht : P.underlying t = some .string) (hv : Value.okWide P W r b0 t v) (h : DataW.Trod enc P W base spare held t v d p) :
    ∃ s : ByteArray, v = .string s ∧ s.size ≤ 9223372036854775807 := by
  obtain ⟨s, rfl, _, _, hs⟩ := open_string ht hv h
  exact ⟨s, rfl, by unfold maxLen at hs; exact hs⟩
/-- A slice of bytes, read. -/
theorem rd_bytes {fuel : Nat} {cs : List Value} {x : DataW H × List MemPlace} (ht : P.underlying t = some (.slice e)) (he : P.underlying e = some (.int .u8)) (hC : P.cellsOf e = 1)
    (hf : DataW.trod enc P W base spare held fuel t cs = some x) :
    ∃ (A : Option Addr) (n c : Nat) (l : List UInt8), cs = [.slice A n c] ∧ Rb W A n l ∧ (n ≤ c ∧ c ≤ 9223372036854775807) := by
  rcases open_ints ht he hC hf with ⟨rfl, _⟩ | ⟨x, l, c, zs, rfl, _, hl, hm, hz, _, hcell, hwz⟩
  · exact ⟨_, _, _, [], rfl, Reads.none_, by omega⟩
  · unfold maxLen at hm
    have hzl : l ≤ zs.length := by
      have : zs.length = if spare x.block then c else l := by simpa using hz
      rw [this]; split <;> omega
    have hb : ∀ i, i < zs.length → 0 ≤ zs.getD i 0 ∧ zs.getD i 0 < 256 := fun i hi => by
      have := hwz (zs.getD i 0) (by rw [List.getD_eq_getElem?_getD, List.getElem?_eq_getElem hi]; exact List.getElem_mem hi)
      simp [Lit.wf, IntKind.min, IntKind.max, IntKind.bits, IntKind.signed] at this
      simp
      omega
    refine ⟨_, _, _, (zs.take l).map fun z => UInt8.ofNat z.toNat, rfl, ⟨by simp; omega, fun h0 => ⟨x, rfl, ?_, fun j u hu => ?_⟩⟩, by omega⟩
    · have := World.block_lt_of_cell? W _ (hcell 0 (by omega))
      simpa [block_of_add] using this
    · have hj : j < l := by
        have := (List.getElem?_eq_some_iff.1 hu).1
        simp at this
        omega
      rw [hcell j (by omega), ← hu]
      have h2 := hb j (by omega)
      rw [List.getElem?_map, List.getElem?_map, List.getElem?_take, if_pos hj, List.getElem?_eq_getElem (by omega)]
      rw [List.getD_eq_getElem?_getD, List.getElem?_eq_getElem (by omega)] at h2 ⊢
      simp at h2 ⊢
      unfold b8
      congr 1
      rw [UInt8.toNat_ofNat']
      omega
theorem opn_bytes (ht : P.underlying t = some (.slice e)) (he : P.underlying e = some (.int .u8)) (hC : P.cellsOf e = 1) (hv : Value.okWide P W r b0 t v) (h : DataW.Trod enc P W base spare held t v d p) :
    ∃ (A : Option Addr) (n c : Nat) (l : List UInt8), v = .slice A n c ∧ Rb W A n l ∧ (n ≤ c ∧ c ≤ 9223372036854775807) := by
  obtain ⟨a0, len0, cap0, rfl⟩ := okWide_slice ht hv
  obtain ⟨fuel, hf⟩ := h
  obtain ⟨A, n, c, l, hcs, hr, hb⟩ := rd_bytes ht he hC hf
  simp [Value.cells] at hcs
  obtain ⟨rfl, rfl, rfl⟩ := hcs
  exact ⟨_, _, _, l, rfl, hr, hb⟩
/-- A slice of slices of bytes. -/
theorem opn_bytess {e2 : TypeId} (ht : P.underlying t = some (.slice e)) (he : P.underlying e = some (.slice e2)) (hC : P.cellsOf e = 1) (he2 : P.underlying e2 = some (.int .u8)) (hC2 : P.cellsOf e2 = 1)
    (hv : Value.okWide P W r b0 t v) (h : DataW.Trod enc P W base spare held t v d p) :
    ∃ (A : Option Addr) (n c : Nat) (LL : List (List UInt8)), v = .slice A n c ∧ Rbb W A n LL ∧ (n ≤ c ∧ c ≤ 9223372036854775807) := by
  obtain ⟨a0, len0, cap0, rfl⟩ := okWide_slice ht hv
  obtain ⟨fuel, hf⟩ := h
  rcases open_slice ht hf with ⟨hcs, _⟩ | ⟨a, len, cap, m, k0, D, Pl, hcs, _, hl, hm, hmm, _, hi⟩
  · simp [Value.cells] at hcs
    obtain ⟨rfl, rfl, rfl⟩ := hcs
    exact ⟨_, _, _, [], rfl, ⟨rfl, [], Reads.none_, fun k li hk => by simp at hk⟩, by omega⟩
  · simp [Value.cells] at hcs
    obtain ⟨rfl, rfl, rfl⟩ := hcs
    unfold maxLen at hm
    have hml : len0 ≤ m := by rw [hmm]; split <;> omega
    have hel : ∀ i, i < len0 → ∃ (u : Value) (li : List UInt8), W.cell? (a.add i) = some u ∧ ∃ Ai ci, u = .slice Ai li.length ci ∧ (li.length ≤ ci ∧ ci ≤ 9223372036854775807) ∧ Rb W Ai li.length li := fun i hi' => by
      obtain ⟨cs', hc, ht'⟩ := hi i (by omega)
      rw [hC] at hc
      obtain ⟨_, hcl, hat⟩ := World.cells?_some hc
      obtain ⟨Ai, ni, ci, li, rfl, hri, hb⟩ := rd_bytes he he2 hC2 ht'
      have h0 := hat 0 (by omega)
      have hni := hri.len8
      subst hni
      refine ⟨_, li, ?_, Ai, ci, rfl, hb, hri⟩
      simpa [add_of_add] using h0
    have hch : ∃ F : Nat → Value × List UInt8, ∀ i, i < len0 → W.cell? (a.add i) = some (F i).1 ∧ ∃ Ai ci, (F i).1 = .slice Ai (F i).2.length ci ∧ ((F i).2.length ≤ ci ∧ ci ≤ 9223372036854775807) ∧ Rb W Ai (F i).2.length (F i).2 := by
      refine ⟨fun i => if hi : i < len0 then ((hel i hi).choose, (hel i hi).choose_spec.choose) else (undef, []), fun i hi => ?_⟩
      simp only [hi, dif_pos]
      exact (hel i hi).choose_spec.choose_spec
    obtain ⟨F, hF⟩ := hch
    refine ⟨_, _, _, (List.range len0).map fun i => (F i).2, rfl, ⟨by simp, (List.range len0).map fun i => (F i).1, ⟨by simp, fun h0 => ⟨a, rfl, ?_, fun j u hu => ?_⟩⟩, fun k li hk => ?_⟩, by omega⟩
    · have := World.block_lt_of_cell? W _ (hF 0 h0).1
      simpa [block_of_add] using this
    · have hj : j < len0 := by
        have := (List.getElem?_eq_some_iff.1 hu).1
        simpa using this
      rw [(hF j hj).1, ← hu]
      simp [hj]
    · have hk' : k < len0 := by
        have := (List.getElem?_eq_some_iff.1 hk).1
        simpa using this
      obtain ⟨Ai, ci, h1, h2, h3⟩ := (hF k hk').2
      simp [hk'] at hk
      subst hk
      exact ⟨Ai, ci, by simp [hk', h1], h2, h3⟩
/-- A struct of a slice of bytes and an int. -/
theorem opn_cur {t0 t1 : TypeId} {f0 f1 : Field} (hs : P.underlying t = some (.struct #[f0, f1])) (hone : oneCellFields P #[f0, f1] = true) (hCt : P.cellsOf t = 2) (hf0 : f0.type = t0) (hf1 : f1.type = t1)
    (ht0 : P.underlying t0 = some (.slice e)) (he : P.underlying e = some (.int .u8)) (hC : P.cellsOf e = 1) (ht1 : P.underlying t1 = some (.int .i64))
    (hv : Value.okWide P W r b0 t v) (h : DataW.Trod enc P W base spare held t v d p) :
    ∃ (A : Option Addr) (n c : Nat) (l : List UInt8) (a : Int), v = .agg #[.slice A n c, .int .i64 a] ∧ Rb W A n l ∧ (n ≤ c ∧ c ≤ 9223372036854775807) ∧ (-9223372036854775808 ≤ a ∧ a ≤ 9223372036854775807) := by
  subst hf0 hf1
  obtain ⟨v0, v1, y0, y1, n, rfl, _, _, g0, g1⟩ := Go.Joins.open_agg2 hs hone hCt hv h
  obtain ⟨A, n, c, l, hcs, hr, hb⟩ := rd_bytes ht0 he hC g0
  obtain ⟨a, ha, _, wa⟩ := DataW.trod_int ht1 g1
  simp [Lit.wf, IntKind.min, IntKind.max, IntKind.bits, IntKind.signed] at wa
  simp at hcs ha
  subst hcs ha
  exact ⟨A, n, c, l, a, rfl, hr, hb, by omega⟩
/-- An array of bytes, by value. -/
theorem opn_arr8 {n : Nat} (ht : P.underlying t = some (.array n e)) (he : P.underlying e = some (.int .u8)) (hC : P.cellsOf e = 1) (hCt : P.cellsOf t = n) (hv : Value.okWide P W r b0 t v) (h : DataW.Trod enc P W base spare held t v d p) :
    ∃ f : Nat → Nat, v = .agg (arr .u8 n f) ∧ ∀ j, j < n → f j < 256 := by
  simp only [Value.okWide, ht] at hv
  obtain ⟨cs, rfl, hs, _⟩ := hv
  obtain ⟨fuel, hf⟩ := h
  obtain ⟨xs, m, _, _, _, hxl, hx⟩ := DataW.trod_array ht hf
  rw [hCt] at hs
  have hcell : ∀ i, i < n → ∃ a : Nat, cs[i]? = some (.int .u8 (a : Int)) ∧ a < 256 := fun i hi => by
    have h1 := hx i hi
    rw [List.getElem?_eq_getElem (by omega), hC] at h1
    obtain ⟨a, ha, _, wa⟩ := DataW.trod_int he h1
    simp [Lit.wf, IntKind.min, IntKind.max, IntKind.bits, IntKind.signed] at wa
    refine ⟨a.toNat, ?_, by omega⟩
    rw [Int.toNat_of_nonneg (by omega)]
    simp only [Value.cells, Nat.mul_one] at ha
    have h2 : (cs.toList.drop i)[0]? = some (.int .u8 a) := by
      have : ((cs.toList.drop i).take 1)[0]? = some (.int .u8 a) := by rw [ha]; rfl
      simpa using this
    simpa using h2
  refine ⟨fun i => match cs[i]? with | some (.int _ a) => a.toNat | _ => 0, ?_, fun j hj => ?_⟩
  · congr 1
    apply Array.ext_getElem?
    intro i
    by_cases hi : i < n
    · obtain ⟨a, ha, _⟩ := hcell i hi
      rw [arr_get hi, ha]
      simp
    · rw [Array.getElem?_eq_none (by omega), Array.getElem?_eq_none (by rw [arr_size]; omega)]
  · obtain ⟨a, ha, hb⟩ := hcell j hj
    simp only [ha]
    simpa using hb
end
end Go.Proofs.Ytkhdeoihjnpnaaa
