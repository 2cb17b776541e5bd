/- The operands of operations: the contracts of read, write, below, whole, operands and of shape's closure. Each states its conditions. -/
import Derived.Test.YtkhdeoihjnpnaaaWireVary
import Derived.Test.YtkhdeoihjnpnaaaRet3
import Derived.Test.YtkhdeoihjnpnaaaWk
import Derived.StillTailTactics
import Derived.Laws.CopyOwn
import Derived.Lib.SlBuf
import Derived.BigQuiet
namespace Go.Proofs.Ytkhdeoihjnpnaaa
open Go.RowKit Wire
set_option linter.unusedVariables false

/-- What an operand is: least, most, read, written. -/
abbrev Use := Int × Int × Bool × Bool
abbrev uRd : Use := (0, 15, true, false)
abbrev uWr : Use := (0, 15, false, true)
abbrev uBl (n : Int) : Use := (0, n - 1, false, false)
abbrev uWh : Use := (-9223372036854775808, 9223372036854775807, false, false)
abbrev uNo : Use := (0, 0, false, false)
def usC (u : Use) : List Value := [.int .i64 u.1, .int .i64 u.2.1, .bool u.2.2.1, .bool u.2.2.2]
def usL (l : List Use) : List Value := (l.map usC).flatten
theorem usL_len (l : List Use) : (usL l).length = l.length * 4 := by
  induction l with
  | nil => rfl
  | cons u l ih => simp only [usL, List.map_cons, List.flatten_cons, List.length_append, List.length_cons] at ih ⊢; rw [ih]; simp [usC]; omega
theorem useT : AggT Try.prog 54 4 := ⟨⟨_, Try.underlying54, rfl⟩, by kernel_rfl⟩
theorem use3T : AggT Try.prog 55 12 := ⟨⟨_, Try.underlying55, rfl⟩, by kernel_rfl⟩
theorem i3T : AggT Try.prog 58 3 := ⟨⟨_, Try.underlying58, rfl⟩, by kernel_rfl⟩
section
variable {P : Program} {fn : Func} {R : Ending → World → Prop} {tmps : Array Value} {W : World}
theorem ret_ci {p q : Tmp} {ty ty2 : TypeId} (h : fn.results = #[.cell p ty, .cell q ty2]) {g g2 n : Nat} {t t2 : TypeId} {cs : Array Value} (hT : AggT P ty n) {d2 : TypeDesc} (hu2 : P.underlying ty2 = some d2) (hd2 : aggD d2 = false) {v : Value}
    (hp : tmps.getD p undef = .pointer (some ⟨g, 0, none⟩)) (hg : Blk W g t cs) (hn : cs.size = n) (hp2 : tmps.getD q undef = .pointer (some ⟨g2, 0, none⟩)) (hg2 : Blk W g2 t2 #[v])
    (hR : R (.returned (.tuple #[.agg cs, v])) W) : bodyPost P fn R .ret ⟨tmps, []⟩ W := by
  obtain ⟨⟨d, hu, hd⟩, hi⟩ := hT
  subst hn
  have hp' : tmps[p]?.getD undef = .pointer (some ⟨g, 0, none⟩) := by simpa using hp
  have hp2' : tmps[q]?.getD undef = .pointer (some ⟨g2, 0, none⟩) := by simpa using hp2
  have hc : W.cell? ⟨g2, 0, none⟩ = some v := (hg2.cell 0).trans rfl
  have hl : (loadVar ty2 ⟨g2, 0, none⟩).run P W = .ok v W := by
    have ha : (isAgg ty2).run P W = .ok false W := by
      simp only [isAgg, Sem.run_bind, run_underlying hu2, Result.andThen_ok]
      revert hd2; cases d2 <;> simp [aggD]
    simp [loadVar, ha, run_load, hc]
  exact bodyPost_ret (v := .tuple #[.agg cs, v]) (by simp [results, h, hp', hp2', asAddr, run_loadVar_row W g t ty cs (0, 0) d hg hu (by revert hd; cases d <;> simp [aggD]) hi, hl]) rfl hR
end

set_option maxRecDepth 100000 in
set_option maxHeartbeats 1600000 in
theorem read6_any (w : World) :
    Calls Try.prog 38 #[] w fun e w' => e = .returned (.agg #[.int .i64 0, .int .i64 15, .bool true, .bool false]) ∧ Below w.heap.size w w' := by
  have hB : Below w.heap.size w (w.alloc (.cells #[.int .i64 0, .int .i64 0, .bool false, .bool false] 54)) := (Below.alloc (Below.refl w.heap.size w) (by simp <;> omega) (.cells #[.int .i64 0, .int .i64 0, .bool false, .bool false] 54))
  have hz := Blk.new w 54 #[.int .i64 0, .int .i64 0, .bool false, .bool false]
  go_enter Try.func38, Try.ntmps38
  have z1 : (w.alloc (.cells #[.int .i64 0, .int .i64 0, .bool false, .bool false] 54)).cell? ⟨w.heap.size, 0, none⟩ = some (.int .i64 0) := (hz.cell 0).trans rfl
  have z2 := hz.frozen 0
  have z3 : (w.alloc (.cells #[.int .i64 0, .int .i64 0, .bool false, .bool false] 54)).cell? ⟨w.heap.size, 1, none⟩ = some (.int .i64 0) := (hz.cell 1).trans rfl
  have z4 := hz.frozen 1
  have z5 : (w.alloc (.cells #[.int .i64 0, .int .i64 0, .bool false, .bool false] 54)).cell? ⟨w.heap.size, 2, none⟩ = some (.bool false) := (hz.cell 2).trans rfl
  have z6 := hz.frozen 2
  have z7 : (w.alloc (.cells #[.int .i64 0, .int .i64 0, .bool false, .bool false] 54)).cell? ⟨w.heap.size, 3, none⟩ = some (.bool false) := (hz.cell 3).trans rfl
  have z8 := hz.frozen 3
  have z9 := hz.lt
  go_wp2_with fail
  refine ret_c rfl useT rfl (Blk.new _ _ _) (by rfl) ?_
  exact ⟨rfl, (Below.refl w.heap.size w).alloc (Nat.le_refl _) _⟩

set_option maxRecDepth 100000 in
set_option maxHeartbeats 1600000 in
theorem write6_any (w : World) :
    Calls Try.prog 35 #[] w fun e w' => e = .returned (.agg #[.int .i64 0, .int .i64 15, .bool false, .bool true]) ∧ Below w.heap.size w w' := by
  have hB : Below w.heap.size w (w.alloc (.cells #[.int .i64 0, .int .i64 0, .bool false, .bool false] 54)) := (Below.alloc (Below.refl w.heap.size w) (by simp <;> omega) (.cells #[.int .i64 0, .int .i64 0, .bool false, .bool false] 54))
  have hz := Blk.new w 54 #[.int .i64 0, .int .i64 0, .bool false, .bool false]
  go_enter Try.func35, Try.ntmps35
  have z1 : (w.alloc (.cells #[.int .i64 0, .int .i64 0, .bool false, .bool false] 54)).cell? ⟨w.heap.size, 0, none⟩ = some (.int .i64 0) := (hz.cell 0).trans rfl
  have z2 := hz.frozen 0
  have z3 : (w.alloc (.cells #[.int .i64 0, .int .i64 0, .bool false, .bool false] 54)).cell? ⟨w.heap.size, 1, none⟩ = some (.int .i64 0) := (hz.cell 1).trans rfl
  have z4 := hz.frozen 1
  have z5 : (w.alloc (.cells #[.int .i64 0, .int .i64 0, .bool false, .bool false] 54)).cell? ⟨w.heap.size, 2, none⟩ = some (.bool false) := (hz.cell 2).trans rfl
  have z6 := hz.frozen 2
  have z7 : (w.alloc (.cells #[.int .i64 0, .int .i64 0, .bool false, .bool false] 54)).cell? ⟨w.heap.size, 3, none⟩ = some (.bool false) := (hz.cell 3).trans rfl
  have z8 := hz.frozen 3
  have z9 := hz.lt
  go_wp2_with fail
  refine ret_c rfl useT rfl (Blk.new _ _ _) (by rfl) ?_
  exact ⟨rfl, (Below.refl w.heap.size w).alloc (Nat.le_refl _) _⟩

set_option maxRecDepth 100000 in
set_option maxHeartbeats 1600000 in
theorem whole6_any (w : World) :
    Calls Try.prog 36 #[] w fun e w' => e = .returned (.agg #[.int .i64 (-9223372036854775808), .int .i64 9223372036854775807, .bool false, .bool false]) ∧ Below w.heap.size w w' := by
  have hB : Below w.heap.size w (w.alloc (.cells #[.int .i64 0, .int .i64 0, .bool false, .bool false] 54)) := (Below.alloc (Below.refl w.heap.size w) (by simp <;> omega) (.cells #[.int .i64 0, .int .i64 0, .bool false, .bool false] 54))
  have hz := Blk.new w 54 #[.int .i64 0, .int .i64 0, .bool false, .bool false]
  go_enter Try.func36, Try.ntmps36
  have z1 : (w.alloc (.cells #[.int .i64 0, .int .i64 0, .bool false, .bool false] 54)).cell? ⟨w.heap.size, 0, none⟩ = some (.int .i64 0) := (hz.cell 0).trans rfl
  have z2 := hz.frozen 0
  have z3 : (w.alloc (.cells #[.int .i64 0, .int .i64 0, .bool false, .bool false] 54)).cell? ⟨w.heap.size, 1, none⟩ = some (.int .i64 0) := (hz.cell 1).trans rfl
  have z4 := hz.frozen 1
  have z5 : (w.alloc (.cells #[.int .i64 0, .int .i64 0, .bool false, .bool false] 54)).cell? ⟨w.heap.size, 2, none⟩ = some (.bool false) := (hz.cell 2).trans rfl
  have z6 := hz.frozen 2
  have z7 : (w.alloc (.cells #[.int .i64 0, .int .i64 0, .bool false, .bool false] 54)).cell? ⟨w.heap.size, 3, none⟩ = some (.bool false) := (hz.cell 3).trans rfl
  have z8 := hz.frozen 3
  have z9 := hz.lt
  go_wp2_with fail
  refine ret_c rfl useT rfl (Blk.new _ _ _) (by rfl) ?_
  exact ⟨rfl, (Below.refl w.heap.size w).alloc (Nat.le_refl _) _⟩

set_option maxRecDepth 100000 in
set_option maxHeartbeats 1600000 in
theorem below6_any (n : Int) (hn : 0 ≤ n ∧ n ≤ 1000) (w : World) :
    Calls Try.prog 37 #[.int .i64 n] w fun e w' => e = .returned (.agg #[.int .i64 0, .int .i64 (n - 1), .bool false, .bool false]) ∧ Below w.heap.size w w' := by
  have hB : Below w.heap.size w (w.alloc (.cells #[.int .i64 0, .int .i64 0, .bool false, .bool false] 54)) := (Below.alloc (Below.refl w.heap.size w) (by simp <;> omega) (.cells #[.int .i64 0, .int .i64 0, .bool false, .bool false] 54))
  have hz := Blk.new w 54 #[.int .i64 0, .int .i64 0, .bool false, .bool false]
  go_enter Try.func37, Try.ntmps37
  have z1 : (w.alloc (.cells #[.int .i64 0, .int .i64 0, .bool false, .bool false] 54)).cell? ⟨w.heap.size, 0, none⟩ = some (.int .i64 0) := (hz.cell 0).trans rfl
  have z2 := hz.frozen 0
  have z3 : (w.alloc (.cells #[.int .i64 0, .int .i64 0, .bool false, .bool false] 54)).cell? ⟨w.heap.size, 1, none⟩ = some (.int .i64 0) := (hz.cell 1).trans rfl
  have z4 := hz.frozen 1
  have z5 : (w.alloc (.cells #[.int .i64 0, .int .i64 0, .bool false, .bool false] 54)).cell? ⟨w.heap.size, 2, none⟩ = some (.bool false) := (hz.cell 2).trans rfl
  have z6 := hz.frozen 2
  have z7 : (w.alloc (.cells #[.int .i64 0, .int .i64 0, .bool false, .bool false] 54)).cell? ⟨w.heap.size, 3, none⟩ = some (.bool false) := (hz.cell 3).trans rfl
  have z8 := hz.frozen 3
  have z9 := hz.lt
  go_wp2_with fail
  refine ret_c rfl useT rfl (Blk.new _ _ _) (by rfl) ?_
  exact ⟨rfl, (Below.refl w.heap.size w).alloc (Nat.le_refl _) _⟩

set_option maxRecDepth 100000 in
set_option maxHeartbeats 1600000 in
theorem operands_any (op : Nat) (x y z : Int) (w : World) :
    Calls Try.prog 22 #[.agg #[.int .u8 (op : Int), .int .i64 x, .int .i64 y, .int .i64 z]] w fun e w' => e = .returned (.agg #[.int .i64 x, .int .i64 y, .int .i64 z]) ∧ Below w.heap.size w w' := by
  have hB : Below w.heap.size w ((w.alloc (.cells #[.int .u8 (op : Int), .int .i64 x, .int .i64 y, .int .i64 z] 23)).alloc (.cells #[.int .i64 0, .int .i64 0, .int .i64 0] 58)) := (Below.alloc (Below.alloc (Below.refl w.heap.size w) (by simp <;> omega) (.cells #[.int .u8 (op : Int), .int .i64 x, .int .i64 y, .int .i64 z] 23)) (by simp <;> omega) (.cells #[.int .i64 0, .int .i64 0, .int .i64 0] 58))
  have hx := Blk.new w 23 #[.int .u8 (op : Int), .int .i64 x, .int .i64 y, .int .i64 z]
  replace hx := hx.alloc (.cells #[.int .i64 0, .int .i64 0, .int .i64 0] 58)
  have hz := Blk.new (w.alloc (.cells #[.int .u8 (op : Int), .int .i64 x, .int .i64 y, .int .i64 z] 23)) 58 #[.int .i64 0, .int .i64 0, .int .i64 0]
  rw [show (w.alloc (.cells #[.int .u8 (op : Int), .int .i64 x, .int .i64 y, .int .i64 z] 23)).heap.size = w.heap.size + 1 from by simp] at hz
  go_enter Try.func22, Try.ntmps22
  have z1 : ((w.alloc (.cells #[.int .u8 (op : Int), .int .i64 x, .int .i64 y, .int .i64 z] 23)).alloc (.cells #[.int .i64 0, .int .i64 0, .int .i64 0] 58)).cell? ⟨w.heap.size, 0, none⟩ = some (.int .u8 (op : Int)) := (hx.cell 0).trans rfl
  have z2 := hx.frozen 0
  have z3 : ((w.alloc (.cells #[.int .u8 (op : Int), .int .i64 x, .int .i64 y, .int .i64 z] 23)).alloc (.cells #[.int .i64 0, .int .i64 0, .int .i64 0] 58)).cell? ⟨w.heap.size, 1, none⟩ = some (.int .i64 x) := (hx.cell 1).trans rfl
  have z4 := hx.frozen 1
  have z5 : ((w.alloc (.cells #[.int .u8 (op : Int), .int .i64 x, .int .i64 y, .int .i64 z] 23)).alloc (.cells #[.int .i64 0, .int .i64 0, .int .i64 0] 58)).cell? ⟨w.heap.size, 2, none⟩ = some (.int .i64 y) := (hx.cell 2).trans rfl
  have z6 := hx.frozen 2
  have z7 : ((w.alloc (.cells #[.int .u8 (op : Int), .int .i64 x, .int .i64 y, .int .i64 z] 23)).alloc (.cells #[.int .i64 0, .int .i64 0, .int .i64 0] 58)).cell? ⟨w.heap.size, 3, none⟩ = some (.int .i64 z) := (hx.cell 3).trans rfl
  have z8 := hx.frozen 3
  have z9 : ((w.alloc (.cells #[.int .u8 (op : Int), .int .i64 x, .int .i64 y, .int .i64 z] 23)).alloc (.cells #[.int .i64 0, .int .i64 0, .int .i64 0] 58)).cell? ⟨(w.heap.size + 1), 0, none⟩ = some (.int .i64 0) := (hz.cell 0).trans rfl
  have z10 := hz.frozen 0
  have z11 : ((w.alloc (.cells #[.int .u8 (op : Int), .int .i64 x, .int .i64 y, .int .i64 z] 23)).alloc (.cells #[.int .i64 0, .int .i64 0, .int .i64 0] 58)).cell? ⟨(w.heap.size + 1), 1, none⟩ = some (.int .i64 0) := (hz.cell 1).trans rfl
  have z12 := hz.frozen 1
  have z13 : ((w.alloc (.cells #[.int .u8 (op : Int), .int .i64 x, .int .i64 y, .int .i64 z] 23)).alloc (.cells #[.int .i64 0, .int .i64 0, .int .i64 0] 58)).cell? ⟨(w.heap.size + 1), 2, none⟩ = some (.int .i64 0) := (hz.cell 2).trans rfl
  have z14 := hz.frozen 2
  have z15 := hx.lt
  have z16 := hz.lt
  go_wp2_with fail
  refine ret_c rfl i3T rfl (cs := #[.int .i64 x, .int .i64 y, .int .i64 z]) (Blk.newAt (by simp) _ _) (by rfl) ?_
  exact ⟨rfl, ((Below.refl w.heap.size w).alloc (Nat.le_refl _) _).alloc (by simp) _⟩

theorem run_copy_rowN {P : Program} (w : World) (dT sT ty elem : TypeId) (g dLen dCap size : Nat) (a : Addr) (sLen sCap : Nat) (cur : Array Value) (t : TypeId) (cs : List Value)
    (hu : P.underlying dT = some (.slice elem)) (hs : (P.info? elem).map (·.size) = some size)
    (hg : w.heap[g]? = some (.cells cur t (0, 0))) (hn : cs.length = Nat.min sLen dLen * size)
    (hsrc : ∀ j v, cs[j]? = some v → w.cell? (a.add j) = some v) (hfit : cs.length ≤ cur.size) (h1 : ∀ v ∈ cs, v.oneCell' = true) :
    (Builtin.copy_ #[dT, sT] ty #[.slice (some ⟨g, 0, none⟩) dLen dCap, .slice (some a) sLen sCap]).run P w =
      .ok (goInt (Nat.min sLen dLen)) (w.setRow g (cs ++ cur.toList.drop cs.length).toArray) := by
  have hl := run_loadCells_list (P := P) w a cs hsrc
  have hst := run_storeCells_at P g 0 t cs 0 cur w hg (by simpa using hfit) h1
  simp only [Nat.add_zero, List.take_zero, List.nil_append, Nat.zero_add] at hst
  cases hq : P.info? elem with
  | none => simp [hq] at hs
  | some i =>
    have hi : i.size = size := by simpa [hq] using hs
    simp [Builtin.copy_, run_underlying hu, Builtin.lenOf, Builtin.firstCells, sizeOf, typeInfo, hq, hi, ← hn, hl, hst]
theorem Blk.setRow {w : World} {g : Nat} {t : TypeId} {cs : Array Value} (h : Blk w g t cs) (new : Array Value) : Blk (w.setRow g new) g t new := setRow_heap w g cs new t (0, 0) h
theorem Blk.setRowO {w : World} {g k : Nat} {t : TypeId} {cs : Array Value} (h : Blk w k t cs) (hne : k ≠ g) (new : Array Value) : Blk (w.setRow g new) k t cs := (setRow_other w g k new hne).trans h

/-- All blocks but two stay. -/
structure Ex2 (p q : Nat) (w w' : World) : Prop where
  os : w'.os = w.os
  tape : w'.tape = w.tape
  output : w'.output = w.output
  size : w.heap.size ≤ w'.heap.size
  block : ∀ k, k < w.heap.size → k ≠ p → k ≠ q → w'.heap[k]? = w.heap[k]?
theorem Ex2.below {p q B : Nat} {w w' : World} (h : Ex2 p q w w') (hB : B ≤ w.heap.size) (hp : B ≤ p) (hq : B ≤ q) : Below B w w' := ⟨h.os, h.tape, h.output, h.size, fun k hk => h.block k (by omega) (by omega) (by omega)⟩

set_option maxRecDepth 100000 in
set_option maxHeartbeats 1600000 in
theorem set6_any (g h : Nat) (hne : g ≠ h) (A : Option Addr) (m c : Nat) (l : List Use) (cs : List Value) (v0 : Int) (w : World) (hr : Reads w w.heap.size 4 A m (usL l)) (hl : l.length = m) (hm : 1 ≤ m ∧ m ≤ 3) (hcs : cs.length = 12) (hu : Blk w g 55 cs.toArray) (hn : Blk w h 3 #[.int .i64 v0]) :
    Calls Try.prog 34 #[.slice A m c, .pointer (some ⟨g, 0, none⟩), .pointer (some ⟨h, 0, none⟩)] w fun e w' => e = .returned (.tuple #[]) ∧ Blk w' g 55 (usL l ++ cs.drop (m * 4)).toArray ∧ Blk w' h 3 #[.int .i64 (m : Int)] ∧ Ex2 g h w w' := by
  rcases A with _ | ad
  · obtain ⟨ad, h0, _⟩ := hr.2 (by omega)
    cases h0
  have hcell : ∀ j v, (usL l)[j]? = some v → w.cell? (ad.add j) = some v := by
    intro j v hv
    obtain ⟨ad', h0, _, hc⟩ := hr.2 (by omega)
    injection h0 with h0
    subst h0
    exact hc j v hv
  have hsrc := hcell
  have hone : ∀ v ∈ usL l, v.oneCell' = true := by
    intro v hv
    simp only [usL, List.mem_flatten, List.mem_map] at hv
    obtain ⟨x, ⟨u, _, rfl⟩, hv⟩ := hv
    simp only [usC, List.mem_cons, List.not_mem_nil, or_false] at hv
    rcases hv with rfl | rfl | rfl | rfl <;> rfl
  have hrun : ∀ ty, (Builtin.copy_ #[78, 78] ty #[.slice (some ⟨g, 0, none⟩) 3 3, .slice (some ad) m c]).run Try.prog w = .ok (goInt m) (w.setRow g (usL l ++ cs.drop (m * 4)).toArray) := by
    intro ty
    have h0 := run_copy_rowN (P := Try.prog) w 78 78 ty 54 g 3 3 4 ad m c cs.toArray 55 (usL l) Try.underlying78 (by kernel_rfl) hu (by rw [usL_len, hl]; congr 1; exact (Nat.min_eq_left hm.2).symm) hcell (by rw [usL_len, hl, List.size_toArray, hcs]; omega) hone
    rw [usL_len, hl] at h0
    rw [show Nat.min m 3 = m from Nat.min_eq_left hm.2] at h0
    exact h0
  clear hr hcell hsrc
  have hn2 := hn.setRowO hne.symm (usL l ++ cs.drop (m * 4)).toArray
  have hu2 := hu.setRow (usL l ++ cs.drop (m * 4)).toArray
  have c0 : (w.setRow g (usL l ++ cs.drop (m * 4)).toArray).cell? ⟨h, 0, none⟩ = some (.int .i64 v0) := (hn2.cell 0).trans rfl
  have f0 := hn2.frozen 0
  go_enter Try.func34, Try.ntmps34
  go_wp2_with fail
  go_end0
  refine ⟨rfl, hu2.far (p := ⟨h, 0, none⟩) hne _, (hn2.set_ 0 _), ⟨rfl, rfl, rfl, by simp, fun k hk h1 h2 => ?_⟩⟩
  exact (Below.heap_setCell _ ⟨h, 0, none⟩ _ k h2).trans (setRow_other w g k _ h1)

end Go.Proofs.Ytkhdeoihjnpnaaa
