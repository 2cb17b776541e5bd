/- More words for regions that draw their order: two operations that may come up; stores above the bound. Laws over any program; no conditions beyond those that each one states. -/
import Derived.Test.YtkhdeoihjnpnaaaRet2
import Derived.Deep.DeepCutAuto
namespace Go.Proofs.Ytkhdeoihjnpnaaa
open Go.RowKit
set_option linter.unusedVariables false

theorem BelowX.setHi {B g p : Nat} {u w : World} (h : BelowX B g u w) (hp : B ≤ p) (i : Nat) (v : Value) : BelowX B g u (w.setCell ⟨p, i, none⟩ v) :=
  ⟨h.os, h.tape, h.output, by simpa [World.setCell] using h.size, fun k hk hn => (Below.heap_setCell w ⟨p, i, none⟩ v k (by show k ≠ p; omega)).trans (h.block k hk hn)⟩
theorem setHiB {w0 w : World} {C p : Nat} (h : Below C w0 w) (hp : C ≤ p) (i : Nat) (v : Value) : Below C w0 (w.setCell ⟨p, i, none⟩ v) := h.setCell (p := ⟨p, i, none⟩) hp v
theorem BelowXd {B : Nat} {w W : World} (h : BelowX B B w.drew W) : Below B w W := ⟨h.os, h.tape, h.output, h.size, fun k hk => h.block k hk (by omega)⟩
theorem BelowXe {B : Nat} {w W : World} (h : BelowX B B w W) : Below B w W := ⟨h.os, h.tape, h.output, h.size, fun k hk => h.block k hk (by omega)⟩
theorem own_setNe {w : World} {base g n size : Nat} {e t : TypeId} {v : Value} {xs : List Value} {cs : Array Value} (h : w.ownsRow base e size v n xs) (hg : Blk w g t cs) (hne : e ≠ t) (i : Nat) (u : Value) : (w.setCell ⟨g, i, none⟩ u).ownsRow base e size v n xs :=
  ownsRow_setCell_other h (a := ⟨g, i, none⟩) (own_blk_ne h hg hne) u
theorem bx_two {P : Program} {ops : Array Oper} {Q : Exit → Act → World → Prop} {md : Region.Mode} {B g i j : Nat} {oi oj : Oper} {fuel : Nat} {listed : Array Bool} {a : Act} {w : World} (hr : Region.ready md ops listed = [i, j]) (hi : ops[i]? = some oi) (hj : ops[j]? = some oj)
    (hwi : Region.wanted oi (yielded ops a.tmps) = true) (hwj : Region.wanted oj (yielded ops a.tmps) = true)
    (h1 : ∀ K' : Act → World → Prop, (∀ a' w', BelowX B g w w' → wpAnyH P md ops Q (BelowX B g w') fuel (listed.setIfInBounds i true) a' w' → K' a' w') → Oper.wp P oi a w K' Q)
    (h2 : ∀ K' : Act → World → Prop, (∀ a' w', BelowX B g w w' → wpAnyH P md ops Q (BelowX B g w') fuel (listed.setIfInBounds j true) a' w' → K' a' w') → Oper.wp P oj a w K' Q) :
    wpAnyH P md ops Q (BelowX B g w) (fuel + 1) listed a w :=
  wpAnyH_ready hr (by simp) (AllReadyH.cons hi (fun K' hK => by
    rw [if_pos hwi]
    exact h1 K' fun a' w' hx hW => hK.out a' w' hx fun _ => bx_narrow hx hW) (AllReadyH.cons hj (fun K' hK => by
    rw [if_pos hwj]
    exact h2 K' fun a' w' hx hW => hK.out a' w' hx fun _ => bx_narrow hx hW) AllReadyH.nil))
theorem bx_three {P : Program} {ops : Array Oper} {Q : Exit → Act → World → Prop} {md : Region.Mode} {B g i j k : Nat} {oi oj ok : Oper} {fuel : Nat} {listed : Array Bool} {a : Act} {w : World} (hr : Region.ready md ops listed = [i, j, k]) (hi : ops[i]? = some oi) (hj : ops[j]? = some oj) (hk : ops[k]? = some ok)
    (hwi : Region.wanted oi (yielded ops a.tmps) = true) (hwj : Region.wanted oj (yielded ops a.tmps) = true) (hwk : Region.wanted ok (yielded ops a.tmps) = true)
    (h1 : ∀ K' : Act → World → Prop, (∀ a' w', BelowX B g w w' → wpAnyH P md ops Q (BelowX B g w') fuel (listed.setIfInBounds i true) a' w' → K' a' w') → Oper.wp P oi a w K' Q)
    (h2 : ∀ K' : Act → World → Prop, (∀ a' w', BelowX B g w w' → wpAnyH P md ops Q (BelowX B g w') fuel (listed.setIfInBounds j true) a' w' → K' a' w') → Oper.wp P oj a w K' Q)
    (h3 : ∀ K' : Act → World → Prop, (∀ a' w', BelowX B g w w' → wpAnyH P md ops Q (BelowX B g w') fuel (listed.setIfInBounds k true) a' w' → K' a' w') → Oper.wp P ok a w K' Q) :
    wpAnyH P md ops Q (BelowX B g w) (fuel + 1) listed a w :=
  wpAnyH_ready hr (by simp) (AllReadyH.cons hi (fun K' hK => by
    rw [if_pos hwi]
    exact h1 K' fun a' w' hx hW => hK.out a' w' hx fun _ => bx_narrow hx hW) (AllReadyH.cons hj (fun K' hK => by
    rw [if_pos hwj]
    exact h2 K' fun a' w' hx hW => hK.out a' w' hx fun _ => bx_narrow hx hW) (AllReadyH.cons hk (fun K' hK => by
    rw [if_pos hwk]
    exact h3 K' fun a' w' hx hW => hK.out a' w' hx fun _ => bx_narrow hx hW) AllReadyH.nil)))
theorem exb_start (B : Nat) {P : Program} {ops : Array Oper} {Q : Exit → Act → World → Prop} {id : Nat} {a : Act} {w : World} (hm : P.follows .mixedOrders = true) (hc : Calm Q)
    (h : Calm Q → wpAnyH P .any ops Q (ExB B w.drew) ops.size (Array.replicate ops.size false) a w.drew) : (Code.region id ops true).wp P Q a w :=
  wp_region_held_drew hm (Below.refl _ _) fun _ => h hc
theorem reads_cell {w : World} {B size n g : Nat} {xs : List Value} (h : Reads w B size (some ⟨g, 0, none⟩) n xs) (hn : 0 < n) (i : Nat) {v : Value} (hi : xs[i]? = some v) : w.cell? ⟨g, i, none⟩ = some v := by
  obtain ⟨ad, e, _, hc⟩ := h.2 hn
  injection e with e
  subst e
  have := hc i v hi
  have hadd : (⟨g, 0, none⟩ : Addr).add i = ⟨g, i, none⟩ := by unfold Addr.add; split <;> simp_all
  rwa [hadd] at this
end Go.Proofs.Ytkhdeoihjnpnaaa
