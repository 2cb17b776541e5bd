/- A region that draws its order, walked in the text's order: what an operation yields must hold in every world that extends the world at hand, and each call extends it. Laws over any program; no conditions beyond those that each one states. -/
import Derived.Test.YtkhdeoihjnpnaaaMem
import Derived.Deep.RegionHeld3
namespace Go.Proofs.Ytkhdeoihjnpnaaa
open Go.RowKit
set_option linter.unusedVariables false

/-- What lies in the blocks below B is in W as in w. -/
def ExB (B : Nat) (w W : World) : Prop := Below B w W
/-- W extends w: what lies in w's blocks is as it was. -/
abbrev Ext (w W : World) : Prop := ExB w.heap.size w W
theorem Ext.refl (w : World) : Ext w w := Below.refl _ _
theorem Ext.trans {u v w : World} (h : Ext u v) (h2 : Ext v w) : Ext u w := Below.trans h (Below.mono h2 (Below.size h))
theorem Ext.draw {u v : World} (h : Ext u v) : Ext u v.drew := Below.drew h
theorem Ext.al (w : World) (o : Obj) : Ext w (w.alloc o) := (Below.refl _ _).alloc (Nat.le_refl _) o

/-- The post of a panic hangs on no temporary. -/
def Calm (Q : Exit → Act → World → Prop) : Prop := ∀ c (a a' : Act) w, a.defers = a'.defers → Q (.panic c) a' w → Q (.panic c) a w
theorem put_def (a : Act) (d : Option Tmp) (v : Value) : (a.put d v).defers = a.defers := by cases d <;> rfl
theorem calm_body {P : Program} {fn : Func} {R : Ending → World → Prop} : Calm (bodyPost P fn R) := fun _ _ _ _ e h => ⟨e.trans h.1, h.2⟩
theorem calm_then {K : Act → World → Prop} {Q : Exit → Act → World → Prop} (h : Calm Q) : Calm (Exit.then K Q) := fun c a a' w e hq => h c a a' w e hq
theorem calm_block {n : Nat} {Q : Exit → Act → World → Prop} (h : Calm Q) : Calm (Exit.inBlock n Q) := fun c a a' w e hq => h c a a' w e hq

section
variable {P : Program} {ops : Array Oper} {Q : Exit → Act → World → Prop} {md : Region.Mode}
theorem wpAnyH_narrow {S S' : World → Prop} (hS : ∀ w, S' w → S w) : ∀ (fuel : Nat) (listed : Array Bool) (a : Act) (w : World), wpAnyH P md ops Q S' fuel listed a w → wpAnyH P md ops Q S fuel listed a w
  | 0, _, _, _, h => h
  | fuel + 1, _, _, _, h => ⟨h.1, fun i hi => wpOp_mono (fun a' w' h' => ⟨hS _ h'.1, wpAnyH_narrow hS fuel _ a' w' h'.2⟩) (h.2 i hi)⟩

theorem ext_start {id : Nat} {a : Act} {w : World} (hm : P.follows .mixedOrders = true) (hc : Calm Q)
    (h : Calm Q → wpAnyH P .any ops Q (Ext w.drew) ops.size (Array.replicate ops.size false) a w.drew) : (Code.region id ops true).wp P Q a w :=
  wp_region_held_drew hm (Ext.refl _) fun _ => h hc
/-- An operation that yields its value in every world that extends this one. -/
theorem ext_take {i B : Nat} {oi : Oper} {v : Value} {fuel : Nat} {listed : Array Bool} {a : Act} {w : World} (hi : ops[i]? = some oi)
    (hs : Region.noSelect ops = true) (hf : Region.free md ops listed i = true) (hr : (Region.ready md ops listed).contains i = true)
    (hQ : Calm Q)
    (hw : Region.wanted oi (yielded ops a.tmps) = true) (hy : ∀ W, ExB B w W → (execOp a.eval oi).run P W = .ok (.value v) W)
    (h : wpAnyH P md ops Q (ExB B w) fuel (listed.setIfInBounds i true) (a.put oi.dst v) w) : wpAnyH P md ops Q (ExB B w) (fuel + 1) listed a w :=
  wpAnyH_take hi hs hf hr (fun c a w h => hQ c _ _ w (put_def _ _ _).symm h) (.inl ⟨hw, hy⟩) (Below.refl _ w) h
/-- An operation behind a guard that is not met. -/
theorem ext_skip {i B : Nat} {oi : Oper} {fuel : Nat} {listed : Array Bool} {a : Act} {w : World} (hi : ops[i]? = some oi)
    (hs : Region.noSelect ops = true) (hf : Region.free md ops listed i = true) (hr : (Region.ready md ops listed).contains i = true)
    (hQ : Calm Q)
    (hw : Region.wanted oi (yielded ops a.tmps) = false)
    (h : wpAnyH P md ops Q (ExB B w) fuel (listed.setIfInBounds i true) (a.put oi.dst undef) w) : wpAnyH P md ops Q (ExB B w) (fuel + 1) listed a w :=
  wpAnyH_take hi hs hf hr (fun c a w h => hQ c _ _ w (put_def _ _ _).symm h) (.inr ⟨hw, rfl⟩) (Below.refl _ w) h
/-- The one operation that may come up; behind it the bound may be raised. -/
theorem exb_step {i B : Nat} {oi : Oper} {fuel : Nat} {listed : Array Bool} {a : Act} {w : World} (hr : Region.ready md ops listed = [i]) (hi : ops[i]? = some oi)
    (hw : Region.wanted oi (yielded ops a.tmps) = true)
    (h : ∀ K' : Act → World → Prop, (∀ B' a' w', B ≤ B' → Below B w w' → wpAnyH P md ops Q (ExB B' w') fuel (listed.setIfInBounds i true) a' w' → K' a' w') → Oper.wp P oi a w K' Q) :
    wpAnyH P md ops Q (ExB B w) (fuel + 1) listed a w :=
  wpAnyH_ready hr (by simp) (AllReadyH.cons hi (fun K' hK => by
    rw [if_pos hw]
    exact h K' fun B' a' w' hB hx hW => hK.out a' w' hx fun _ => wpAnyH_narrow (fun W hW => Below.trans hx (Below.mono hW hB)) _ _ _ _ hW) AllReadyH.nil)
/-- The same where the operation leaves all that was there. -/
theorem ext_step {i : Nat} {oi : Oper} {fuel : Nat} {listed : Array Bool} {a : Act} {w : World} (hr : Region.ready md ops listed = [i]) (hi : ops[i]? = some oi)
    (hw : Region.wanted oi (yielded ops a.tmps) = true)
    (h : ∀ K' : Act → World → Prop, (∀ a' w', Ext w w' → wpAnyH P md ops Q (Ext w') fuel (listed.setIfInBounds i true) a' w' → K' a' w') → Oper.wp P oi a w K' Q) :
    wpAnyH P md ops Q (Ext w) (fuel + 1) listed a w :=
  exb_step hr hi hw fun K' hK => h K' fun a' w' hx hW => hK w'.heap.size a' w' (Below.size hx) hx hW
/-- The bound may be lowered. -/
theorem exb_low {B B' : Nat} (hB : B ≤ B') {fuel : Nat} {listed : Array Bool} {a : Act} {w : World} (h : wpAnyH P md ops Q (ExB B' w) fuel listed a w) : wpAnyH P md ops Q (ExB B w) fuel listed a w :=
  wpAnyH_narrow (fun _ hW => Below.mono hW hB) _ _ _ _ h
end
end Go.Proofs.Ytkhdeoihjnpnaaa
