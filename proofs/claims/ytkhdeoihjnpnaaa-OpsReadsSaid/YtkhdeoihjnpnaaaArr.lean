/- Arrays of whole numbers by value, whatever their length: their cells by a function of the index; one element stored; two of them compared. Laws over any program; no conditions beyond those that each one states. -/
import Derived.Test.YtkhdeoihjnpnaaaMem
import Derived.Deep.MidRow
namespace Go.Proofs.Ytkhdeoihjnpnaaa
open Go.RowKit
set_option linter.unusedVariables false

/-- An array of n numbers of kind k. -/
def arr (k : IntKind) (n : Nat) (f : Nat → Nat) : Array Value := ((List.range n).map fun i => Value.int k (f i : Int)).toArray
theorem arr_size (k : IntKind) (n : Nat) (f : Nat → Nat) : (arr k n f).size = n := by simp [arr]
theorem arr_get {k : IntKind} {n : Nat} {f : Nat → Nat} {i : Nat} (h : i < n) : (arr k n f)[i]? = some (.int k (f i : Int)) := by
  simp [arr, h]
theorem arr_congr {k : IntKind} {n : Nat} {f g : Nat → Nat} (h : ∀ i, i < n → f i = g i) : arr k n f = arr k n g := by
  unfold arr
  congr 1
  exact List.map_congr_left fun i hi => by rw [h i (List.mem_range.1 hi)]
theorem arr_set {k : IntKind} {n : Nat} (f : Nat → Nat) (i v : Nat) : (arr k n f).setIfInBounds i (.int k (v : Int)) = arr k n (fun j => if j = i then v else f j) := by
  apply Array.ext_getElem?
  intro j
  rw [Array.getElem?_setIfInBounds]
  by_cases hj : j < n
  · by_cases e : i = j
    · subst e; rw [if_pos rfl, arr_size, if_pos hj, arr_get hj, if_pos rfl]
    · rw [if_neg e, arr_get hj, arr_get hj, if_neg (fun h => e h.symm)]
  · have h1 : (arr k n f)[j]? = none := by simp [arr, hj]
    have h2 : (arr k n fun j => if j = i then v else f j)[j]? = none := by simp [arr, hj]
    rw [h1, h2]
    split
    · rw [arr_size]; split
      · omega
      · rfl
    · rfl
theorem arr_one (k : IntKind) (n : Nat) (f : Nat → Nat) : (arr k n f).all (·.oneCell') = true := by
  rw [Array.all_eq_true_iff_forall_mem]
  intro x hx
  simp [arr] at hx
  obtain ⟨i, _, rfl⟩ := hx
  rfl
theorem arr_list (k : IntKind) (n : Nat) (f : Nat → Nat) : ∃ cs : List Value, arr k n f = cs.toArray ∧ cs.length = n ∧ ∀ v ∈ cs, v.oneCell' = true := by
  refine ⟨_, rfl, by simp, fun v hv => ?_⟩
  obtain ⟨j, _, rfl⟩ := List.mem_map.1 hv
  rfl
theorem Blk.arr_cell {w : World} {g : Nat} {t : TypeId} {k : IntKind} {n : Nat} {f : Nat → Nat} (h : Blk w g t (arr k n f)) {i : Nat} (hi : i < n) :
    w.cell? ⟨g, i, none⟩ = some (.int k (f i : Int)) := by rw [h.cell, arr_get hi]
theorem Blk.range {w : World} {g : Nat} {t : TypeId} {cs : Array Value} (h : Blk w g t cs) : ∀ j v, cs.toList[j]? = some v → w.cell? ⟨g, 0 + j, none⟩ = some v := fun j v hv => by
  rw [Nat.zero_add, h.cell]; simpa using hv

theorem Blk.rangeL {w : World} {g : Nat} {t : TypeId} {cs : Array Value} (h : Blk w g t cs) : w.rangeAt g 0 cs.toList := fun j v hv => by
  rw [Nat.zero_add, h.cell]; simpa using hv

theorem Blk.there_of {w : World} {g : Nat} {t : TypeId} {cs : Array Value} (h : Blk w g t cs) {n : Nat} (hn : cs.size = n) : w.there g 0 n := fun j hj => by
  rw [Nat.zero_add]
  refine ⟨?_, h.frozen j⟩
  rw [h.cell, Array.getElem?_eq_getElem (by omega)]
  rfl
theorem below_cells {B g : Nat} {a : World} : ∀ (vs : List Value) (o : Nat) {w : World}, Below B a w → B ≤ g → Below B a (w.setCells g o vs)
  | [], _, _, h, _ => h
  | v :: r, o, w, h, hg => below_cells r (o + 1) (h.setCell (p := ⟨g, o, none⟩) hg v) hg
theorem Blk.cells_ {g : Nat} {t : TypeId} : ∀ (vs : List Value) (o : Nat) {w : World} {cs : Array Value}, Blk w g t cs → o + vs.length = cs.size → Blk (w.setCells g o vs) g t (cs.toList.take o ++ vs).toArray
  | [], o, w, cs, h, hl => by
    have : (cs.toList.take o ++ []).toArray = cs := by
      simp at hl
      rw [List.append_nil, List.take_of_length_le (by simp; omega)]
    rw [this]; exact h
  | v :: r, o, w, cs, h, hl => by
    have hs := Blk.cells_ r (o + 1) (h.set_ o v) (by simp at hl ⊢; omega)
    have : ((cs.setIfInBounds o v).toList.take (o + 1) ++ r).toArray = (cs.toList.take o ++ v :: r).toArray := by
      congr 1
      simp at hl
      rw [Array.toList_setIfInBounds, List.take_add_one, List.take_set_of_le (Nat.le_refl _), List.getElem?_set_self (by simp; omega)]
      simp
    rw [this] at hs
    exact hs
theorem Blk.cells_all {w : World} {g : Nat} {t : TypeId} {cs : Array Value} (h : Blk w g t cs) (vs : List Value) (hl : vs.length = cs.size) : Blk (w.setCells g 0 vs) g t vs.toArray := by
  have := Blk.cells_ vs 0 h (by omega)
  simpa using this

theorem there_below {w w1 : World} {B g n : Nat} (h : w.there g 0 n) (hb : Below B w w1) (hg : g < B) : w1.there g 0 n := fun j hj => by
  obtain ⟨h1, h2⟩ := h j hj
  refine ⟨?_, ?_⟩
  · rw [hb.cell (p := ⟨g, 0 + j, none⟩) hg]; exact h1
  · rw [hb.frozen (p := ⟨g, 0 + j, none⟩) hg]; exact h2

theorem there_drew {w w1 : World} {g n : Nat} (h : w.there g 0 n) (hb : Below w.drew.heap.size w.drew w1) (hg : g < w.heap.size) : w1.there g 0 n := there_below (w := w.drew) h hb hg
theorem below_of_drew {w w1 : World} (hb : Below w.drew.heap.size w.drew w1) : Below w.heap.size w w1 := ⟨hb.os, hb.tape, hb.output, hb.size, hb.block⟩
theorem Blk.below_drew {w w1 : World} {g : Nat} {t : TypeId} {cs : Array Value} (h : Blk w g t cs) (hb : Below w.drew.heap.size w.drew w1) : Blk w1 g t cs := Blk.below (w := w.drew) h hb h.lt

/-- Bytes that are read stay so, and nothing below B turns: for a region that draws its order. -/
def Held (w : World) (A : Option Addr) (n : Nat) (l : List UInt8) (w' : World) : Prop := RdB w' w.heap.size A n l ∧ Below w.heap.size w w'
section
variable {w w' w1 : World} {A : Option Addr} {n : Nat} {l : List UInt8}
theorem size_drew (h : Below w'.drew.heap.size w'.drew w1) : w'.heap.size ≤ w1.heap.size := h.size
theorem Held.start (h : Rb w A n l) : Held w A n l w := ⟨h, Below.refl _ _⟩
theorem Held.drew (h : Held w A n l w') : Held w A n l w'.drew := ⟨Reads.drew h.1, h.2.drew⟩
theorem Held.alloc (h : Held w A n l w') (o : Obj) : Held w A n l (w'.alloc o) := ⟨Reads.alloc h.1 h.2.size o, h.2.alloc h.2.size o⟩
theorem Held.call (h : Held w A n l w') (hb : Below w'.heap.size w' w1) : Held w A n l w1 := ⟨Reads.below h.1 (hb.mono h.2.size), h.2.trans (hb.mono h.2.size)⟩
theorem Held.cells (h : Held w A n l w') (g : Nat) (vs : List Value) (hg : w.heap.size ≤ g) : Held w A n l (w'.setCells g 0 vs) :=
  ⟨Reads.below h.1 (below_cells vs 0 (Below.refl _ _) hg), below_cells vs 0 h.2 hg⟩
theorem Held.read (h : Held w A n l w') : Rb w' A n l := Reads.more h.1 h.2.size
end

/-- A whole array is read. -/
theorem wpList_load_blk {P : Program} {ops : Array Oper} {rest : List Oper} {o : Oper} {a : Act} {w : World} {Q : Exit → Act → World → Prop} (hw : Region.wanted o (yielded ops a.tmps) = true) (ty : TypeId) (x : Operand) (ho : o.op = .load ty x)
    (g : Nat) (hx : a.eval x = .pointer (some ⟨g, 0, none⟩)) {t : TypeId} {cs : Array Value} (hg : Blk w g t cs) {d : TypeDesc}
    (hu : P.underlying ty = some d) (hd : (match d with | .struct _ | .array _ _ => true | _ => false) = true) (hi : (P.info? ty).map (·.size) = some cs.size)
    (h : wpList P ops Q rest (a.put o.dst (.agg cs)) w) : wpList P ops Q (o :: rest) a w :=
  BigFrame.wpList_want hw fun _ hK => wp_load_row ty x ho g hx t cs (0, 0) d hg hu hd hi (hK _ _ h)

/-- A whole array into the block that was made last. -/
theorem wpList_store_new {P : Program} {ops : Array Oper} {rest : List Oper} {o : Oper} {a : Act} {Q : Exit → Act → World → Prop} (hgd : o.guard = none) (ty : TypeId) (x y : Operand) (ho : o.op = .store ty x y)
    (W : World) (hx : a.eval x = .pointer (some ⟨W.heap.size, 0, none⟩)) (c c' : Array Value) (hy : a.eval y = .agg c')
    (hi : (P.info? ty).map (·.size) = some c'.size) (hsz : c.size = c'.size) (h1 : c'.all (·.oneCell') = true)
    (h : wpList P ops Q rest (a.put o.dst undef) (W.alloc (.cells c' ty))) : wpList P ops Q (o :: rest) a (W.alloc (.cells c ty)) :=
  wpList_store_row hgd ty x y ho W.heap.size c' hx hy ty c (heap_alloc_new W _) hi hsz h1 (by rw [World.setRow_alloc_new]; exact h)

/-- Whether two arrays are alike. -/
def eqn (n : Nat) (f g : Nat → Nat) : Bool := (List.range n).all fun i => f i == g i
theorem eqn_true {n : Nat} {f g : Nat → Nat} : eqn n f g = true ↔ ∀ i, i < n → f i = g i := by simp [eqn, List.all_eq_true]
theorem eqn_refl (n : Nat) (f : Nat → Nat) : eqn n f f = true := eqn_true.2 fun _ _ => rfl

/-- An element of an array that is a value. -/
theorem run_index_arr {P : Program} (t e : TypeId) (k : IntKind) (n : Nat) (ht : P.underlying t = some (.array n e)) (he : P.underlying e = some (.int k)) (hsz : ∀ w, (sizeOf e).run P w = .ok 1 w)
    (f : Nat → Nat) (i : Nat) (hi : i < n) (w : World) : (Instr.index t (.agg (arr k n f)) (.int .i64 (i : Int))).run P w = .ok (.int k (f i : Int)) w := by
  have px : (part e (arr k n f) (i * 1)).run P w = .ok (.int k (f i : Int)) w := by
    simp [part, isAgg, run_underlying he, arr_get hi]
  simp only [Nat.mul_one] at px
  simp [Instr.index, asIntOf, run_underlying ht, hi, hsz, px]
/-- A result that is an array in a variable, and a number. -/
theorem results_arr_tmp {P : Program} {fn : Func} {p q : Tmp} {ty : TypeId} (h : fn.results = #[.cell p ty, .tmp q]) (tmps : Array Value) (w : World) (g : Nat) (t : TypeId) (cs : Array Value) (fr : Nat × Nat) (d : TypeDesc)
    (hp : tmps.getD p undef = .pointer (some ⟨g, 0, none⟩)) (hg : w.heap[g]? = some (.cells cs t fr))
    (hu : P.underlying ty = some d) (hd : (match d with | .struct _ | .array _ _ => true | _ => false) = true) (hi : (P.info? ty).map (·.size) = some cs.size) :
    (results fn tmps).run P w = .ok (.tuple #[.agg cs, tmps.getD q undef]) w := by
  have hp' : tmps[p]?.getD undef = .pointer (some ⟨g, 0, none⟩) := by simpa using hp
  simp [results, h, hp', asAddr, run_loadVar_row w g t ty cs fr d hg hu hd hi]
theorem results_arr_tmp2 {P : Program} {fn : Func} {p q r : Tmp} {ty : TypeId} (h : fn.results = #[.cell p ty, .tmp q, .tmp r]) (tmps : Array Value) (w : World) (g : Nat) (t : TypeId) (cs : Array Value) (fr : Nat × Nat) (d : TypeDesc)
    (hp : tmps.getD p undef = .pointer (some ⟨g, 0, none⟩)) (hg : w.heap[g]? = some (.cells cs t fr))
    (hu : P.underlying ty = some d) (hd : (match d with | .struct _ | .array _ _ => true | _ => false) = true) (hi : (P.info? ty).map (·.size) = some cs.size) :
    (results fn tmps).run P w = .ok (.tuple #[.agg cs, tmps.getD q undef, tmps.getD r undef]) w := by
  have hp' : tmps[p]?.getD undef = .pointer (some ⟨g, 0, none⟩) := by simpa using hp
  simp [results, h, hp', asAddr, run_loadVar_row w g t ty cs fr d hg hu hd hi]

section
variable {P : Program} (w : World)
theorem run_equalIn_arr (d : Nat) (t e : TypeId) (k : IntKind) (n : Nat) (ht : P.underlying t = some (.array n e)) (he : P.underlying e = some (.int k)) (hsz : ∀ w, (sizeOf e).run P w = .ok 1 w)
    (f g : Nat → Nat) : (Op.equalIn (d + 2) t (.agg (arr k n f)) (.agg (arr k n g))).run P w = .ok (eqn n f g) w := by
  unfold eqn
  rw [List.range_eq_range', Op.equalIn]
  simp only [Sem.run_bind, run_underlying ht, Result.andThen_ok, hsz, Std.Legacy.Range.forIn_eq_forIn_range', Std.Legacy.Range.size, Nat.sub_zero, Nat.add_sub_cancel, Nat.div_one]
  have hl : ∀ i ∈ List.range' 0 n 1, i < n := fun i hi => by simpa using (List.mem_range'_1.1 hi).2
  generalize List.range' 0 n 1 = l at hl ⊢
  induction l with
  | nil => simp
  | cons i l ih =>
    have hi : i < n := hl i (by simp)
    have px : (part e (arr k n f) (i * 1)).run P w = .ok (.int k (f i : Int)) w := by
      simp [part, isAgg, run_underlying he, arr_get hi]
    have py : (part e (arr k n g) (i * 1)).run P w = .ok (.int k (g i : Int)) w := by
      simp [part, isAgg, run_underlying he, arr_get hi]
    have pe : (Op.equalIn (d + 1) e (.int k (f i : Int)) (.int k (g i : Int))).run P w = .ok (f i == g i) w := by
      rw [run_equalIn_int w d e k k _ _ he]
      congr 1
      rw [Bool.eq_iff_iff]
      simp
      omega
    simp only [List.forIn_cons, Sem.run_bind, px, py, pe, Result.andThen_ok, List.all_cons]
    cases hb : (f i == g i)
    · simp
    · simp only [Bool.not_true, Bool.false_eq_true, if_false, Sem.run_pure, Result.andThen_ok, Bool.true_and]
      exact ih fun j hj => hl j (by simp [hj])
theorem run_eql_arr (t e : TypeId) (k : IntKind) (n : Nat) (ht : P.underlying t = some (.array n e)) (he : P.underlying e = some (.int k)) (hsz : ∀ w, (sizeOf e).run P w = .ok 1 w)
    (f g : Nat → Nat) : (binOp .eql t (.agg (arr k n f)) (.agg (arr k n g))).run P w = .ok (.bool (eqn n f g)) w := by
  rw [run_eql_struct, run_equalIn_arr w 9998 t e k n ht he hsz f g]; rfl
theorem run_neq_arr (t e : TypeId) (k : IntKind) (n : Nat) (ht : P.underlying t = some (.array n e)) (he : P.underlying e = some (.int k)) (hsz : ∀ w, (sizeOf e).run P w = .ok 1 w)
    (f g : Nat → Nat) : (binOp .neq t (.agg (arr k n f)) (.agg (arr k n g))).run P w = .ok (.bool (!eqn n f g)) w := by
  rw [run_neq_struct, run_equalIn_arr w 9998 t e k n ht he hsz f g]; rfl
end
/-- The first elements of an array, as a slice. -/
theorem wpList_slice_arr {P : Program} {ops : Array Oper} {rest : List Oper} {o : Oper} {a : Act} {w : World} {Q : Exit → Act → World → Prop} (hw : Region.wanted o (yielded ops a.tmps) = true) (ty : TypeId) (x y : Operand) (ho : o.op = .slice ty x none (some y) none)
    {e : TypeId} {n : Nat} (hu : P.underlying ty = some (.array n e)) (hsz : ∀ w, (sizeOf e).run P w = .ok 1 w) (g : Nat) (hx : a.eval x = .pointer (some ⟨g, 0, none⟩)) (k : Nat) (hy : a.eval y = .int .i64 (k : Int)) (hk : k ≤ n)
    (h : wpList P ops Q rest (a.put o.dst (.slice (some ⟨g, 0, none⟩) k n)) w) : wpList P ops Q (o :: rest) a w := by
  refine BigFrame.wpList_want hw fun _ hK => ?_
  have hl : P.arrayLen ty = n := by simp [Program.arrayLen, hu]
  have he : P.elem ty = e := by simp [Program.elem, hu]
  have hu' : P.underlying ty = some (.array (P.arrayLen ty) (P.elem ty)) := by rw [hl, he]; exact hu
  have hr := run_sliceAt_array_h (P := P) w ty ⟨g, 0, none⟩ hu' .i64 (k : Int) (by omega) (by rw [hl]; omega)
  rw [he, hsz, hl] at hr
  unfold Oper.wp execOp
  simp only [ho, Option.map_some, Option.map_none, hx, hy, Sem.run_bind, Sem.run_pure, hr, Result.andThen_ok]
  have e1 : slicedAt (⟨g, 0, none⟩ : Addr) 0 (k : Int).toNat n 1 = .slice (some ⟨g, 0, none⟩) k n := by
    simp [slicedAt, Addr.add]
  rw [e1]
  exact hK _ _ h
end Go.Proofs.Ytkhdeoihjnpnaaa
