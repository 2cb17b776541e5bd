/- More words for memory: below a bound all but one block is as it was; a region that draws its order under it. Laws over any program; no conditions beyond those that each one states. -/
import Derived.Test.YtkhdeoihjnpnaaaRet
namespace Go.Proofs.Ytkhdeoihjnpnaaa
open Go.RowKit
set_option linter.unusedVariables false

/-- Below B all but block g is as it was. -/
structure BelowX (B g : Nat) (w w' : World) : Prop where
  os : w'.os = w.os
  tape : w'.tape = w.tape
  output : w'.output = w.output
  size : w.heap.size ≤ w'.heap.size
  block : ∀ k, k < B → k ≠ g → w'.heap[k]? = w.heap[k]?
theorem BelowX.refl (B g : Nat) (w : World) : BelowX B g w w := ⟨rfl, rfl, rfl, Nat.le_refl _, fun _ _ _ => rfl⟩
theorem BelowX.trans {B g : Nat} {u v w : World} (h : BelowX B g u v) (h2 : BelowX B g v w) : BelowX B g u w :=
  ⟨h2.os.trans h.os, h2.tape.trans h.tape, h2.output.trans h.output, Nat.le_trans h.size h2.size, fun k hk hn => (h2.block k hk hn).trans (h.block k hk hn)⟩
theorem BelowX.of {B : Nat} {w w' : World} (h : Below B w w') (g : Nat) : BelowX B g w w' := ⟨h.os, h.tape, h.output, h.size, fun k hk _ => h.block k hk⟩
theorem BelowX.call {B g : Nat} {u w w' : World} (h : BelowX B g u w) (hB : B ≤ w.heap.size) (b : Below w.heap.size w w') : BelowX B g u w' := h.trans (BelowX.of (b.mono hB) g)
theorem BelowX.set_ {B g : Nat} {u w : World} (h : BelowX B g u w) (i : Nat) (v : Value) : BelowX B g u (w.setCell ⟨g, i, none⟩ v) :=
  ⟨h.os, h.tape, h.output, by simpa [World.setCell] using h.size, fun k hk hn => (Below.heap_setCell w ⟨g, i, none⟩ v k hn).trans (h.block k hk hn)⟩
theorem BelowX.drew {B g : Nat} {u w : World} (h : BelowX B g u w) : BelowX B g u w.drew := ⟨h.os, h.tape, h.output, h.size, h.block⟩
theorem BelowX.below {B C g : Nat} {w w' : World} (h : BelowX B g w w') (hC : C ≤ B) (hg : C ≤ g) : Below C w w' := ⟨h.os, h.tape, h.output, h.size, fun k hk => h.block k (by omega) (by omega)⟩
theorem Blk.belowx {B g k : Nat} {w w' : World} {t : TypeId} {cs : Array Value} (h : Blk w k t cs) (hb : BelowX B g w w') (hk : k < B) (hne : k ≠ g) : Blk w' k t cs := (hb.block k hk hne).trans h
theorem own_far {w : World} {base g i : Nat} {e : TypeId} {size : Nat} {v : Value} {n : Nat} {xs : List Value} (h : w.ownsRow base e size v n xs) (hg : g < base) (u : Value) : (w.setCell ⟨g, i, none⟩ u).ownsRow base e size v n xs := by
  refine ⟨h.1, ?_⟩
  rcases h.2 with h2 | ⟨k, cap, c, h1, h2, h3, h4⟩
  · exact .inl h2
  · exact .inr ⟨k, cap, c, h1, h2, (Below.heap_setCell w _ u k (by show k ≠ g; omega)).trans h3, h4⟩
theorem BelowX.app {B g : Nat} {u w w' : World} (h : BelowX B g u w) (b : Below B w w') : BelowX B g u w' := h.trans (BelowX.of b g)
section
variable {P : Program} {ops : Array Oper} {Q : Exit → Act → World → Prop} {md : Region.Mode} {B g : Nat}
theorem bx_narrow {w w' : World} (hx : BelowX B g w w') {fuel : Nat} {listed : Array Bool} {a : Act} (h : wpAnyH P md ops Q (BelowX B g w') fuel listed a w') : wpAnyH P md ops Q (BelowX B g w) fuel listed a w' :=
  wpAnyH_narrow (fun _ hW => hx.trans hW) _ _ _ _ h
theorem bx_start (B g : Nat) {id : Nat} {a : Act} {w : World} (hm : P.follows .mixedOrders = true)
    (h : Calm (NoP Q) → wpAnyH P .any ops (NoP Q) (BelowX B g w.drew) ops.size (Array.replicate ops.size false) a w.drew) : (Code.region id ops true).wp P Q a w :=
  nop_wp (wp_region_held_drew hm (BelowX.refl _ _ _) fun _ => h calm_nop)
theorem bx_take {i : Nat} {oi : Oper} {v : Value} {fuel : Nat} {listed : Array Bool} {a : Act} {w : World} (hi : ops[i]? = some oi)
    (hs : Region.noSelect ops = true) (hf : Region.free md ops listed i = true) (hr : (Region.ready md ops listed).contains i = true)
    (hQ : Calm Q)
    (hw : Region.wanted oi (yielded ops a.tmps) = true) (hy : ∀ W, BelowX B g w W → (execOp a.eval oi).run P W = .ok (.value v) W)
    (h : wpAnyH P md ops Q (BelowX B g w) fuel (listed.setIfInBounds i true) (a.put oi.dst v) w) : wpAnyH P md ops Q (BelowX B g w) (fuel + 1) listed a w :=
  wpAnyH_take hi hs hf hr (fun c a w h => hQ c _ _ w (put_def _ _ _).symm h) (.inl ⟨hw, hy⟩) (BelowX.refl _ _ w) h
theorem bx_skip {i : Nat} {oi : Oper} {fuel : Nat} {listed : Array Bool} {a : Act} {w : World} (hi : ops[i]? = some oi)
    (hs : Region.noSelect ops = true) (hf : Region.free md ops listed i = true) (hr : (Region.ready md ops listed).contains i = true)
    (hQ : Calm Q)
    (hw : Region.wanted oi (yielded ops a.tmps) = false)
    (h : wpAnyH P md ops Q (BelowX B g w) fuel (listed.setIfInBounds i true) (a.put oi.dst undef) w) : wpAnyH P md ops Q (BelowX B g w) (fuel + 1) listed a w :=
  wpAnyH_take hi hs hf hr (fun c a w h => hQ c _ _ w (put_def _ _ _).symm h) (.inr ⟨hw, rfl⟩) (BelowX.refl _ _ w) h
theorem bx_step {i : Nat} {oi : Oper} {fuel : Nat} {listed : Array Bool} {a : Act} {w : World} (hr : Region.ready md ops listed = [i]) (hi : ops[i]? = some oi)
    (hw : Region.wanted oi (yielded ops a.tmps) = true)
    (h : ∀ K' : Act → World → Prop, (∀ a' w', BelowX B g w w' → wpAnyH P md ops Q (BelowX B g w') fuel (listed.setIfInBounds i true) a' w' → K' a' w') → Oper.wp P oi a w K' Q) :
    wpAnyH P md ops Q (BelowX B g w) (fuel + 1) listed a w :=
  wpAnyH_ready hr (by simp) (AllReadyH.cons hi (fun K' hK => by
    rw [if_pos hw]
    exact h K' fun a' w' hx hW => hK.out a' w' hx fun _ => bx_narrow hx hW) AllReadyH.nil)
end
end Go.Proofs.Ytkhdeoihjnpnaaa
