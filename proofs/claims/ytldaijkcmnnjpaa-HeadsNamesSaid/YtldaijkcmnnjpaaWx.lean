/- Facts of a segment's world, carried over a call that writes one older block. Laws over any program; no conditions beyond those that each one states. -/
import Derived.Test.YtldaijkcmnnjpaaWk
namespace Go.Proofs.Ytldaijkcmnnjpaa
open Go.RowKit
set_option linter.unusedVariables false

theorem BelowX.setO {B g : Nat} {u w : World} (h : BelowX B g u w) {p : Addr} (hp : p.block = g ∨ B ≤ p.block) (v : Value) : BelowX B g u (w.setCell p v) :=
  ⟨h.os, h.tape, h.output, by simpa [World.setCell] using h.size, fun k hk hn => (Below.heap_setCell w p v k (by omega)).trans (h.block k hk hn)⟩
theorem BelowX.al {B g : Nat} {u w : World} (h : BelowX B g u w) (hB : B ≤ w.heap.size) (o : Obj) : BelowX B g u (w.alloc o) := h.call hB (Ext.al w o)
theorem BelowX.via {B g : Nat} {u w w' : World} (h : BelowX B g u w) (hB : B ≤ w.heap.size) (b : BelowX w.heap.size g w w') : BelowX B g u w' := h.trans (b.low hB)
theorem Blk.viax {W w1 : World} {r g : Nat} {t : TypeId} {cs : Array Value} (b : BelowX W.heap.size r W w1) (hne : g ≠ r) (h : Blk W g t cs) : Blk w1 g t cs := h.belowx b h.lt hne
theorem own_viax {w w' : World} {base r : Nat} {e : TypeId} {size : Nat} {v : Value} {n : Nat} {xs : List Value} (h : w.ownsRow base e size v n xs) (hne : v.ownBlock ≠ some r) (b : BelowX w.heap.size r w w') : w'.ownsRow base e size v n xs := by
  refine ⟨h.1, ?_⟩
  rcases h.2 with h2 | ⟨k, cap, c, h1, h2, h3, h4⟩
  · exact .inl h2
  · refine .inr ⟨k, cap, c, h1, h2, (b.block k (heap_lt h3) (fun e => hne (by rw [h1, e]; rfl))).trans h3, h4⟩
theorem BelowX.grown {B g : Nat} {u w w' : World} (h : BelowX B g u w) (hB : B ≤ w.heap.size) {row : Option Nat} (hg : w.grownBy w' row) (hr : ∀ k, row = some k → B ≤ k ∨ k = g) : BelowX B g u w' :=
  ⟨hg.os.trans h.os, hg.tape.trans h.tape, hg.output.trans h.output, Nat.le_trans h.size hg.size, fun k hk hn => (hg.block k (by omega) (fun e => by rcases hr k e.symm with h1 | h1 <;> omega)).trans (h.block k hk hn)⟩
end Go.Proofs.Ytldaijkcmnnjpaa
