/- What a function returns where results lie in variables of the call's own. Laws over any program; no conditions beyond those that each one states. -/
import Derived.Test.YtkhdeoihjnpnaaaArr
import Derived.Test.YtkhdeoihjnpnaaaSlice
import Derived.Test.YtkhdeoihjnpnaaaRegion
namespace Go.Proofs.Ytkhdeoihjnpnaaa
open Go.RowKit
set_option linter.unusedVariables false

/-- The type of a variable that holds several cells. -/
def aggD : TypeDesc → Bool | .struct _ => true | .array _ _ => true | _ => false
def AggT (P : Program) (ty : TypeId) (n : Nat) : Prop := (∃ d, P.underlying ty = some d ∧ aggD d = true) ∧ (P.info? ty).map (·.size) = some n
section
variable {P : Program} {fn : Func} {R : Ending → World → Prop} {tmps : Array Value} {W : World}
theorem ret_c {p : Tmp} {ty : TypeId} (h : fn.results = #[.cell p ty]) {g n : Nat} {t : TypeId} {cs : Array Value} (hT : AggT P ty n)
    (hp : tmps.getD p undef = .pointer (some ⟨g, 0, none⟩)) (hg : Blk W g t cs) (hn : cs.size = n)
    (hR : R (.returned (.agg cs)) W) : bodyPost P fn R .ret ⟨tmps, []⟩ W := by
  obtain ⟨⟨d, hu, hd⟩, hi⟩ := hT
  subst hn
  have hp' : tmps[p]?.getD undef = .pointer (some ⟨g, 0, none⟩) := by simpa using hp
  exact bodyPost_ret (v := .agg cs) (by simp [results, h, hp', asAddr, run_loadVar_row W g t ty cs (0, 0) d hg hu (by revert hd; cases d <;> simp [aggD]) hi]) rfl hR
theorem ret_c1 {p q : Tmp} {ty : TypeId} (h : fn.results = #[.cell p ty, .tmp q]) {g n : Nat} {t : TypeId} {cs : Array Value} (hT : AggT P ty n)
    (hp : tmps.getD p undef = .pointer (some ⟨g, 0, none⟩)) (hg : Blk W g t cs) (hn : cs.size = n)
    (hR : R (.returned (.tuple #[.agg cs, tmps.getD q undef])) W) : bodyPost P fn R .ret ⟨tmps, []⟩ W := by
  obtain ⟨⟨d, hu, hd⟩, hi⟩ := hT
  subst hn
  exact bodyPost_ret (results_arr_tmp h tmps W g t cs (0, 0) d hp hg hu (by revert hd; cases d <;> simp [aggD]) hi) rfl hR
theorem ret_c2 {p q r : Tmp} {ty : TypeId} (h : fn.results = #[.cell p ty, .tmp q, .tmp r]) {g n : Nat} {t : TypeId} {cs : Array Value} (hT : AggT P ty n)
    (hp : tmps.getD p undef = .pointer (some ⟨g, 0, none⟩)) (hg : Blk W g t cs) (hn : cs.size = n)
    (hR : R (.returned (.tuple #[.agg cs, tmps.getD q undef, tmps.getD r undef])) W) : bodyPost P fn R .ret ⟨tmps, []⟩ W := by
  obtain ⟨⟨d, hu, hd⟩, hi⟩ := hT
  subst hn
  exact bodyPost_ret (results_arr_tmp2 h tmps W g t cs (0, 0) d hp hg hu (by revert hd; cases d <;> simp [aggD]) hi) rfl hR
theorem ret_cc1 {p p2 r : Tmp} {ty ty2 : TypeId} (h : fn.results = #[.cell p ty, .cell p2 ty2, .tmp r]) {g n g2 n2 : Nat} {t t2 : TypeId} {cs cs2 : Array Value} (hT : AggT P ty n) (hT2 : AggT P ty2 n2)
    (hp : tmps.getD p undef = .pointer (some ⟨g, 0, none⟩)) (hg : Blk W g t cs) (hn : cs.size = n) (hp2 : tmps.getD p2 undef = .pointer (some ⟨g2, 0, none⟩)) (hg2 : Blk W g2 t2 cs2) (hn2 : cs2.size = n2)
    (hR : R (.returned (.tuple #[.agg cs, .agg cs2, tmps.getD r undef])) W) : bodyPost P fn R .ret ⟨tmps, []⟩ W := by
  obtain ⟨⟨d, hu, hd⟩, hi⟩ := hT
  obtain ⟨⟨d2, hu2, hd2⟩, hi2⟩ := hT2
  subst hn hn2
  have hp' : tmps[p]?.getD undef = .pointer (some ⟨g, 0, none⟩) := by simpa using hp
  have hp2' : tmps[p2]?.getD undef = .pointer (some ⟨g2, 0, none⟩) := by simpa using hp2
  exact bodyPost_ret (v := .tuple #[.agg cs, .agg cs2, tmps.getD r undef]) (by simp [results, h, hp', hp2', asAddr, run_loadVar_row W g t ty cs (0, 0) d hg hu (by revert hd; cases d <;> simp [aggD]) hi, run_loadVar_row W g2 t2 ty2 cs2 (0, 0) d2 hg2 hu2 (by revert hd2; cases d2 <;> simp [aggD]) hi2]) rfl hR
end
/-- Where a part of a slice begins: at its capacity it keeps the old address. -/
def sA (A : Option Addr) (c i : Nat) : Option Addr := if c = i then A else A.map (·.add i)
section
variable {P : Program} {t e : TypeId}
theorem elem_of (ht : P.underlying t = some (.slice e)) : P.elem t = e := by simp [Program.elem, ht]
theorem slice_lh (ht : P.underlying t = some (.slice e)) (hs : ∀ w, (sizeOf e).run P w = .ok 1 w) (A : Option Addr) (n c i v : Nat) {k1 k2 : IntKind} {a b : Int} (ha : a = i) (hb : b = i + v) (hc : i + v ≤ c) (W : World) :
    (Instr.slice t (.slice A n c) (some (.int k1 a)) (some (.int k2 b)) none).run P W = .ok (.slice (sA A c i) v (c - i)) W := by
  have ht' : P.underlying t = some (.slice (P.elem t)) := by rw [elem_of ht]; exact ht
  rw [run_slice_lh W t A n c ht' k1 k2 a b (by omega) (by omega) (by omega), elem_of ht, hs]
  simp only [Result.andThen, sliced, sA, Nat.mul_one]
  rw [show a.toNat = i from by omega, show b.toNat = i + v from by omega, show i + v - i = v from by omega]
theorem slice_l (ht : P.underlying t = some (.slice e)) (hs : ∀ w, (sizeOf e).run P w = .ok 1 w) (A : Option Addr) (n c i : Nat) {k1 : IntKind} {a : Int} (ha : a = i) (hc : i ≤ n) (W : World) :
    (Instr.slice t (.slice A n c) (some (.int k1 a)) none none).run P W = .ok (.slice (sA A c i) (n - i) (c - i)) W := by
  have ht' : P.underlying t = some (.slice (P.elem t)) := by rw [elem_of ht]; exact ht
  rw [run_slice_l W t A n c ht' k1 a (by omega) (by omega), elem_of ht, hs]
  simp only [Result.andThen, sliced, sA, Nat.mul_one]
  rw [show a.toNat = i from by omega]
theorem sub_reads {w : World} {B n i v c : Nat} {A : Option Addr} {l : List UInt8} (h : RdB w B A n l) (hi : i + v ≤ n) (hc : n ≤ c) : RdB w B (sA A c i) v ((l.drop i).take v) := reads_sub h hi hc
end
/-! A region that draws its order, makes memory and stores into one block g of the call's own. -/
def ExR (g : Nat) (w W : World) : Prop := w.grownBy W (some g)
theorem ExR.refl (g : Nat) (w : World) : ExR g w w := World.grownBy.refl w _
theorem ExR.trans {g : Nat} {u v w : World} (h : ExR g u v) (h2 : ExR g v w) : ExR g u w :=
  ⟨h2.os.trans h.os, h2.tape.trans h.tape, h2.output.trans h.output, Nat.le_trans h.size h2.size, fun i hi hn => (h2.block i (Nat.lt_of_lt_of_le hi h.size) hn).trans (h.block i hi hn)⟩
theorem ExR.size {g : Nat} {w w' : World} (h : ExR g w w') : w.heap.size ≤ w'.heap.size := World.grownBy.size h
theorem ExR.of {w w' : World} (h : Below w.heap.size w w') (g : Nat) : ExR g w w' := ⟨h.os, h.tape, h.output, h.size, fun i hi _ => h.block i hi⟩
theorem ExR.set_ {g : Nat} {a w : World} (h : ExR g a w) {p : Addr} (hp : p.block = g) (u : Value) : ExR g a (w.setCell p u) :=
  ⟨h.os, h.tape, h.output, by simpa [World.setCell] using h.size, fun i hi hne => (Below.heap_setCell w p u i (by rintro rfl; exact hne (by rw [hp]))).trans (h.block i hi hne)⟩
theorem ExR.below {g B : Nat} {w w' : World} (h : ExR g w w') (hg : B ≤ g) (hB : B ≤ w.heap.size) : Below B w w' := ⟨h.os, h.tape, h.output, h.size, fun i hi => h.block i (by omega) (fun e => by injection e with e; omega)⟩
theorem Blk.exr {w w' : World} {g k : Nat} {t : TypeId} {cs : Array Value} (h : Blk w k t cs) (hb : ExR g w w') (hne : k ≠ g) : Blk w' k t cs := h.grown hb (fun e => by injection e with e; exact hne e)
theorem Reads.exr {w w' : World} {B g size n : Nat} {A : Option Addr} {xs : List Value} (h : Reads w B size A n xs) (hb : ExR g w w') (hg : B ≤ g) (hB : B ≤ w.heap.size) : Reads w' B size A n xs := h.below (hb.below hg hB)
section
variable {P : Program} {ops : Array Oper} {Q : Exit → Act → World → Prop} {md : Region.Mode} {g : Nat}
theorem exr_start (g : Nat) {id : Nat} {a : Act} {w : World} (hm : P.follows .mixedOrders = true) (hc : Calm Q)
    (h : Calm Q → wpAnyH P .any ops Q (ExR g w.drew) ops.size (Array.replicate ops.size false) a w.drew) : (Code.region id ops true).wp P Q a w :=
  wp_region_held_drew hm (ExR.refl _ _) fun _ => h hc
theorem exr_take {i : Nat} {oi : Oper} {v : Value} {fuel : Nat} {listed : Array Bool} {a : Act} {w : World} (hi : ops[i]? = some oi)
    (hs : Region.noSelect ops = true) (hf : Region.free md ops listed i = true) (hr : (Region.ready md ops listed).contains i = true)
    (hQ : Calm Q)
    (hw : Region.wanted oi (yielded ops a.tmps) = true) (hy : ∀ W, ExR g w W → (execOp a.eval oi).run P W = .ok (.value v) W)
    (h : wpAnyH P md ops Q (ExR g w) fuel (listed.setIfInBounds i true) (a.put oi.dst v) w) : wpAnyH P md ops Q (ExR g w) (fuel + 1) listed a w :=
  wpAnyH_take hi hs hf hr (fun c a w h => hQ c _ _ w (put_def _ _ _).symm h) (.inl ⟨hw, hy⟩) (ExR.refl _ w) h
theorem exr_skip {i : Nat} {oi : Oper} {fuel : Nat} {listed : Array Bool} {a : Act} {w : World} (hi : ops[i]? = some oi)
    (hs : Region.noSelect ops = true) (hf : Region.free md ops listed i = true) (hr : (Region.ready md ops listed).contains i = true)
    (hQ : Calm Q)
    (hw : Region.wanted oi (yielded ops a.tmps) = false)
    (h : wpAnyH P md ops Q (ExR g w) fuel (listed.setIfInBounds i true) (a.put oi.dst undef) w) : wpAnyH P md ops Q (ExR g w) (fuel + 1) listed a w :=
  wpAnyH_take hi hs hf hr (fun c a w h => hQ c _ _ w (put_def _ _ _).symm h) (.inr ⟨hw, rfl⟩) (ExR.refl _ w) h
theorem exr_step {i : Nat} {oi : Oper} {fuel : Nat} {listed : Array Bool} {a : Act} {w : World} (hr : Region.ready md ops listed = [i]) (hi : ops[i]? = some oi)
    (hw : Region.wanted oi (yielded ops a.tmps) = true)
    (h : ∀ K' : Act → World → Prop, (∀ a' w', ExR g w w' → wpAnyH P md ops Q (ExR g w') fuel (listed.setIfInBounds i true) a' w' → K' a' w') → Oper.wp P oi a w K' Q) :
    wpAnyH P md ops Q (ExR g w) (fuel + 1) listed a w :=
  wpAnyH_ready hr (by simp) (AllReadyH.cons hi (fun K' hK => by
    rw [if_pos hw]
    exact h K' fun a' w' hx hW => hK.out a' w' hx fun _ => wpAnyH_narrow (fun W hW => ExR.trans hx hW) _ _ _ _ hW) AllReadyH.nil)
end
/-! Bytes onto a row of bytes of the call's own. -/
section
variable {P : Program} {w : World}
theorem wp_app8 {o : Oper} {a : Act} {K : Act → World → Prop} {Q : Exit → Act → World → Prop} (s x : Operand) (t : TypeId)
    (ho : o.op = .call { callee := .builtin .append, args := #[s, x], argTypes := #[t, t] }) {e : TypeId} (hsl : IsSl P t e (.int .u8 0) 1 1)
    (base : Nat) {A0 : Option Addr} {n c0 : Nat} {l : List UInt8} (hs : a.eval s = .slice A0 n c0) (hown : w.ownsRow base e 1 (.slice A0 n c0) n (l.map b8))
    {B : Nat} {A : Option Addr} {m c : Nat} {l2 : List UInt8} (hx : a.eval x = .slice A m c) (hr : RdB w B A m l2) (N : Nat) (hN : n + m = N)
    (hbytes : N ≤ 140737488355328) (hbase : base ≤ w.heap.size)
    (h : ∀ A' c' w', w'.ownsRow base e 1 (.slice A' N c') N ((l ++ l2).map b8) → Below base w w' → K (a.put o.dst (.slice A' N c')) w') : o.wp P a w K Q := by
  subst hN
  refine wp_app s x t ho hsl base _ n _ hs hown B A m c _ hx hr (b8_one l2) (by omega) hbase ?_
  intro A' c' w' h1 _ h3 _
  exact h A' c' w' (by rw [List.map_append]; exact h1) h3
theorem wpList_app8 {ops : Array Oper} {rest : List Oper} {o : Oper} {a : Act} {Q : Exit → Act → World → Prop} (hgd : Region.wanted o (yielded ops a.tmps) = true) (s x : Operand) (t : TypeId)
    (ho : o.op = .call { callee := .builtin .append, args := #[s, x], argTypes := #[t, t] }) {e : TypeId} (hsl : IsSl P t e (.int .u8 0) 1 1)
    (base : Nat) {A0 : Option Addr} {n c0 : Nat} {l : List UInt8} (hs : a.eval s = .slice A0 n c0) (hown : w.ownsRow base e 1 (.slice A0 n c0) n (l.map b8))
    {B : Nat} {A : Option Addr} {m c : Nat} {l2 : List UInt8} (hx : a.eval x = .slice A m c) (hr : RdB w B A m l2) (N : Nat) (hN : n + m = N)
    (hbytes : N ≤ 140737488355328) (hbase : base ≤ w.heap.size)
    (h : ∀ A' c' w', w'.ownsRow base e 1 (.slice A' N c') N ((l ++ l2).map b8) → Below base w w' → wpList P ops Q rest (a.put o.dst (.slice A' N c')) w') : wpList P ops Q (o :: rest) a w :=
  BigFrame.wpList_want hgd fun _ hK => wp_app8 s x t ho hsl base hs hown hx hr N hN hbytes hbase fun A' c' w' h2 h3 => hK _ _ (h A' c' w' h2 h3)
end
section
variable {P : Program} {w : World}
theorem wp_app8g {o : Oper} {a : Act} {K : Act → World → Prop} {Q : Exit → Act → World → Prop} (s x : Operand) (t : TypeId)
    (ho : o.op = .call { callee := .builtin .append, args := #[s, x], argTypes := #[t, t] }) {e : TypeId} (hsl : IsSl P t e (.int .u8 0) 1 1)
    (base : Nat) {A0 : Option Addr} {n c0 : Nat} {l : List UInt8} (hs : a.eval s = .slice A0 n c0) (hown : w.ownsRow base e 1 (.slice A0 n c0) n (l.map b8))
    {B : Nat} {A : Option Addr} {m c : Nat} {l2 : List UInt8} (hx : a.eval x = .slice A m c) (hr : RdB w B A m l2) (N : Nat) (hN : n + m = N)
    (hbytes : N ≤ 140737488355328) (hbase : base ≤ w.heap.size)
    (h : ∀ A' c' w', w'.ownsRow base e 1 (.slice A' N c') N ((l ++ l2).map b8) → w.grownBy w' (Value.slice A0 n c0).ownBlock → Below base w w' → K (a.put o.dst (.slice A' N c')) w') : o.wp P a w K Q := by
  subst hN
  refine wp_app s x t ho hsl base _ n _ hs hown B A m c _ hx hr (b8_one l2) (by omega) hbase ?_
  intro A' c' w' h1 h2 h3 _
  exact h A' c' w' (by rw [List.map_append]; exact h1) h2 h3
theorem wpList_app8g {ops : Array Oper} {rest : List Oper} {o : Oper} {a : Act} {Q : Exit → Act → World → Prop} (hgd : Region.wanted o (yielded ops a.tmps) = true) (s x : Operand) (t : TypeId)
    (ho : o.op = .call { callee := .builtin .append, args := #[s, x], argTypes := #[t, t] }) {e : TypeId} (hsl : IsSl P t e (.int .u8 0) 1 1)
    (base : Nat) {A0 : Option Addr} {n c0 : Nat} {l : List UInt8} (hs : a.eval s = .slice A0 n c0) (hown : w.ownsRow base e 1 (.slice A0 n c0) n (l.map b8))
    {B : Nat} {A : Option Addr} {m c : Nat} {l2 : List UInt8} (hx : a.eval x = .slice A m c) (hr : RdB w B A m l2) (N : Nat) (hN : n + m = N)
    (hbytes : N ≤ 140737488355328) (hbase : base ≤ w.heap.size)
    (h : ∀ A' c' w', w'.ownsRow base e 1 (.slice A' N c') N ((l ++ l2).map b8) → w.grownBy w' (Value.slice A0 n c0).ownBlock → Below base w w' → wpList P ops Q rest (a.put o.dst (.slice A' N c')) w') : wpList P ops Q (o :: rest) a w :=
  BigFrame.wpList_want hgd fun _ hK => wp_app8g s x t ho hsl base hs hown hx hr N hN hbytes hbase fun A' c' w' h2 h3 h4 => hK _ _ (h A' c' w' h2 h3 h4)
end
/-- Q, but nothing may panic. -/
def NoP (Q : Exit → Act → World → Prop) : Exit → Act → World → Prop
  | .panic _, _, _ => False
  | e, a, w => Q e a w
theorem nop_wp {P : Program} {Q : Exit → Act → World → Prop} {c : Code} {a : Act} {w : World} (h : c.wp P (NoP Q) a w) : c.wp P Q a w :=
  Code.wp_mono (fun e a w h => by cases e <;> first | exact h | exact (h : False).elim) h
theorem calm_nop {Q : Exit → Act → World → Prop} : Calm (NoP Q) := fun _ _ _ _ _ h => h
/-! A region that draws its order, where nothing is said of the worlds between: what does not hang on the world is taken first, the others one by one, two orders where two may come up. -/
section
variable {P : Program} {ops : Array Oper} {Q : Exit → Act → World → Prop} {md : Region.Mode}
def AnyW : World → Prop := fun _ => True
theorem any_start {id : Nat} {a : Act} {w : World} (hm : P.follows .mixedOrders = true) (hc : Calm Q)
    (h : Calm Q → wpAnyH P .any ops Q AnyW ops.size (Array.replicate ops.size false) a w.drew) : (Code.region id ops true).wp P Q a w :=
  wp_region_held_drew hm trivial fun _ => h hc
theorem any_take {i : Nat} {oi : Oper} {v : Value} {fuel : Nat} {listed : Array Bool} {a : Act} {w : World} (hi : ops[i]? = some oi)
    (hs : Region.noSelect ops = true) (hf : Region.free md ops listed i = true) (hr : (Region.ready md ops listed).contains i = true)
    (hQ : Calm Q)
    (hw : Region.wanted oi (yielded ops a.tmps) = true) (hy : ∀ W, AnyW W → (execOp a.eval oi).run P W = .ok (.value v) W)
    (h : wpAnyH P md ops Q AnyW fuel (listed.setIfInBounds i true) (a.put oi.dst v) w) : wpAnyH P md ops Q AnyW (fuel + 1) listed a w :=
  wpAnyH_take hi hs hf hr (fun c a w h => hQ c _ _ w (put_def _ _ _).symm h) (.inl ⟨hw, hy⟩) trivial h
theorem any_one {i : Nat} {oi : Oper} {fuel : Nat} {listed : Array Bool} {a : Act} {w : World} (hr : Region.ready md ops listed = [i]) (hi : ops[i]? = some oi)
    (hw : Region.wanted oi (yielded ops a.tmps) = true)
    (h : ∀ K' : Act → World → Prop, (∀ a' w', wpAnyH P md ops Q AnyW fuel (listed.setIfInBounds i true) a' w' → K' a' w') → Oper.wp P oi a w K' Q) :
    wpAnyH P md ops Q AnyW (fuel + 1) listed a w :=
  wpAnyH_ready hr (by simp) (AllReadyH.cons hi (fun K' hK => by
    rw [if_pos hw]
    exact h K' fun a' w' hW => hK.out a' w' trivial fun _ => hW) AllReadyH.nil)
theorem any_two {i j : Nat} {oi oj : Oper} {fuel : Nat} {listed : Array Bool} {a : Act} {w : World} (hr : Region.ready md ops listed = [i, j]) (hi : ops[i]? = some oi) (hj : ops[j]? = some oj)
    (hwi : Region.wanted oi (yielded ops a.tmps) = true) (hwj : Region.wanted oj (yielded ops a.tmps) = true)
    (h1 : ∀ K' : Act → World → Prop, (∀ a' w', wpAnyH P md ops Q AnyW fuel (listed.setIfInBounds i true) a' w' → K' a' w') → Oper.wp P oi a w K' Q)
    (h2 : ∀ K' : Act → World → Prop, (∀ a' w', wpAnyH P md ops Q AnyW fuel (listed.setIfInBounds j true) a' w' → K' a' w') → Oper.wp P oj a w K' Q) :
    wpAnyH P md ops Q AnyW (fuel + 1) listed a w :=
  wpAnyH_ready hr (by simp) (AllReadyH.cons hi (fun K' hK => by
    rw [if_pos hwi]
    exact h1 K' fun a' w' hW => hK.out a' w' trivial fun _ => hW) (AllReadyH.cons hj (fun K' hK => by
    rw [if_pos hwj]
    exact h2 K' fun a' w' hW => hK.out a' w' trivial fun _ => hW) AllReadyH.nil))
end
/-- What lies in a row of the call's own, below a block that bounds it. -/
theorem own_rd {w : World} {base : Nat} {e : TypeId} {A : Option Addr} {n c : Nat} {l : List UInt8} (h : w.ownsRow base e 1 (.slice A n c) n (l.map b8)) : Rb w A n l := own_reads h
theorem own_call {w w' : World} {base : Nat} {e : TypeId} {size : Nat} {v : Value} {n : Nat} {xs : List Value} (h : w.ownsRow base e size v n xs) (hb : Below w.heap.size w w') : w'.ownsRow base e size v n xs := own_grown h hb
end Go.Proofs.Ytkhdeoihjnpnaaa
