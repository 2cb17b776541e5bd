/- Facts of a segment's world, carried over a call. Laws over any program; no conditions beyond those that each one states. -/
import Derived.Test.YtkhdeoihjnpnaaaChecked
import Derived.Test.YtkhdeoihjnpnaaaRet3
namespace Go.Proofs.Ytkhdeoihjnpnaaa
open Go.RowKit
set_option linter.unusedVariables false

theorem Blk.via0 {W w1 : World} {g : Nat} {t : TypeId} {cs : Array Value} (b : Below W.heap.size W w1) (h : Blk W g t cs) : Blk w1 g t cs := h.below b h.lt
theorem Blk.eq_ {w : World} {g : Nat} {t : TypeId} {cs cs' : Array Value} (h : Blk w g t cs) (e : cs = cs') : Blk w g t cs' := e ▸ h
theorem Blk.newAt {w : World} {g : Nat} (hg : w.heap.size = g) (t : TypeId) (cs : Array Value) : Blk (w.alloc (.cells cs t)) g t cs := by
  subst hg; exact Blk.new w t cs
theorem Below.via {w W w1 : World} (h : Below w.heap.size w W) (b : Below W.heap.size W w1) : Below w.heap.size w w1 := h.trans (b.mono h.size)
theorem own_alloc_ {w : World} {base : Nat} {e : TypeId} {size : Nat} {v : Value} {n : Nat} {xs : List Value} (h : w.ownsRow base e size v n xs) (o : Obj) : (w.alloc o).ownsRow base e size v n xs := own_call h (Ext.al w o)
theorem own_drew_ {w : World} {base : Nat} {e : TypeId} {size : Nat} {v : Value} {n : Nat} {xs : List Value} (h : w.ownsRow base e size v n xs) : w.drew.ownsRow base e size v n xs := own_call h (Ext.refl w).draw
theorem own_set_ {w : World} {base : Nat} {e : TypeId} {size : Nat} {v : Value} {n : Nat} {xs : List Value} {a : Addr} (hne : v.ownBlock ≠ some a.block) (h : w.ownsRow base e size v n xs) (u : Value) : (w.setCell a u).ownsRow base e size v n xs := ownsRow_setCell_other h hne u
theorem own_not_lt {w : World} {base : Nat} {e : TypeId} {size : Nat} {v : Value} {n : Nat} {xs : List Value} (h : w.ownsRow base e size v n xs) {p : Nat} (hp : p < base) : v.ownBlock ≠ some p := fun he => by have := (h.lt _ he).1; omega
theorem own_not_ge {w : World} {base : Nat} {e : TypeId} {size : Nat} {v : Value} {n : Nat} {xs : List Value} (h : w.ownsRow base e size v n xs) {p : Nat} (hp : w.heap.size ≤ p) : v.ownBlock ≠ some p := fun he => by have := (h.lt _ he).2; omega

/-- Bytes in a block that the call has made, and may write. -/
def OwU (w : World) (B : Nat) (A : Option Addr) (n : Nat) (l : List UInt8) : Prop :=
  l.length = n ∧ (A = none ∧ n = 0 ∨ ∃ (g : Nat) (cur : Array Value) (lo hi : Nat), A = some ⟨g, 0, none⟩ ∧ B ≤ g ∧ w.heap[g]? = some (.cells cur 5 (lo, hi)) ∧ (n ≤ lo ∨ hi = 0) ∧ ∀ (j : Nat) (c : UInt8), l[j]? = some c → cur[j]? = some (b8 c))
theorem heap_lt {w : World} {g : Nat} {o : Obj} (h : w.heap[g]? = some o) : g < w.heap.size := (Array.getElem?_eq_some_iff.1 h).1
section
variable {w w' : World} {B B' n : Nat} {A : Option Addr} {l : List UInt8}
theorem OwU.block (h : OwU w B A n l) (hb : ∀ g, A = some ⟨g, 0, none⟩ → B ≤ g → g < w.heap.size → w'.heap[g]? = w.heap[g]?) : OwU w' B A n l := by
  refine ⟨h.1, ?_⟩
  rcases h.2 with h | ⟨g, cur, lo, hi, h1, h2, h3, h4⟩
  · exact .inl h
  · exact .inr ⟨g, cur, lo, hi, h1, h2, (hb g h1 h2 (heap_lt h3)).trans h3, h4⟩
theorem OwU.call (h : OwU w B A n l) (b : Below w.heap.size w w') : OwU w' B A n l := h.block fun g _ _ hg => b.block g hg
theorem OwU.al (h : OwU w B A n l) (o : Obj) : OwU (w.alloc o) B A n l := h.call (Ext.al w o)
theorem OwU.drew (h : OwU w B A n l) : OwU w.drew B A n l := h.call (Ext.refl w).draw
theorem OwU.low (h : OwU w B A n l) (b : B' ≤ B) : OwU w B' A n l := by
  refine ⟨h.1, ?_⟩
  rcases h.2 with h | ⟨g, cur, lo, hi, h1, h2, h3, h4⟩
  · exact .inl h
  · exact .inr ⟨g, cur, lo, hi, h1, by omega, h3, h4⟩
theorem add_zero_at (g j : Nat) : (⟨g, 0, none⟩ : Addr).add j = ⟨g, j, none⟩ := by unfold Addr.add; split <;> simp_all
theorem OwU.rd (h : OwU w B A n l) : Rb w A n l :=
  ⟨by simpa using h.1, fun hn => by
    rcases h.2 with ⟨_, h0⟩ | ⟨g, cur, lo, hi, h1, h2, h3, h4, h5⟩
    · omega
    refine ⟨_, h1, heap_lt h3, fun j u hu => ?_⟩
    rw [List.getElem?_map] at hu
    cases hc : l[j]? with
    | none => rw [hc] at hu; cases hu
    | some c =>
      rw [hc] at hu
      injection hu with hu
      subst hu
      rw [add_zero_at, cell_of_row w g j cur 5 (lo, hi) h3]
      exact h5 j c hc⟩
theorem OwU.nil (w : World) (B : Nat) : OwU w B none 0 [] := ⟨rfl, .inl ⟨rfl, rfl⟩⟩
theorem OwU.of_own {c : Nat} (h : w.ownsRow B 5 1 (.slice A n c) n (l.map b8)) : OwU w B A n l := by
  refine ⟨by simpa using h.1, ?_⟩
  rcases h.2 with ⟨hv, h0⟩ | ⟨g, cap, cur, hv, hb, hh, _, _, hs, ht⟩
  · injection hv with hA _ _
    exact .inl ⟨hA, h0⟩
  · injection hv with hA _ _
    refine .inr ⟨g, cur, 0, 0, hA, hb, hh, .inr rfl, fun j c hc => ?_⟩
    have h1 : (l.map b8)[j]? = some (b8 c) := by rw [List.getElem?_map, hc]; rfl
    rw [← ht, List.getElem?_take] at h1
    split at h1
    · simpa using h1
    · cases h1
theorem OwU.lt (h : OwU w B A n l) {c g : Nat} (e : (Value.slice A n c).ownBlock = some g) : B ≤ g ∧ g < w.heap.size := by
  rcases h.2 with ⟨h0, _⟩ | ⟨g', cur, lo, hi, h1, h2, h3, h4⟩
  · subst h0; simp [Value.ownBlock] at e
  · subst h1
    simp [Value.ownBlock] at e
    subst e
    exact ⟨h2, heap_lt h3⟩
theorem OwU.not_lt (h : OwU w B A n l) {c p : Nat} (hp : p < B) : (Value.slice A n c).ownBlock ≠ some p := fun he => by have := (h.lt he).1; omega
theorem OwU.not_ge (h : OwU w B A n l) {c p : Nat} (hp : w.heap.size ≤ p) : (Value.slice A n c).ownBlock ≠ some p := fun he => by have := (h.lt he).2; omega
theorem OwU.setOther {a : Addr} {c : Nat} (hne : (Value.slice A n c).ownBlock ≠ some a.block) (h : OwU w B A n l) (u : Value) : OwU (w.setCell a u) B A n l :=
  h.block fun g hA _ _ => Below.heap_setCell w a u g (by rintro rfl; subst hA; exact hne rfl)
theorem OwU.setLow (h : OwU w B A n l) {p : Addr} (hp : p.block < B) (u : Value) : OwU (w.setCell p u) B A n l :=
  h.block fun g _ hg _ => Below.heap_setCell w p u g (by omega)
theorem OwU.grow {n' size : Nat} {e : TypeId} {v : Value} {xs : List Value} (h : OwU w B A n l) (h' : w.ownsRow B' e size v n' xs) (hne : 5 ≠ e) (hg : w.grownBy w' v.ownBlock) : OwU w' B A n l := by
  refine ⟨h.1, ?_⟩
  rcases h.2 with h | ⟨g, cur, lo, hi, h1, h2, h3, h4⟩
  · exact .inl h
  refine .inr ⟨g, cur, lo, hi, h1, h2, (hg.block g (heap_lt h3) (fun e' => ?_)).trans h3, h4⟩
  rcases h'.2 with ⟨rfl, _⟩ | ⟨g', cap', cur', rfl, _, hh', _⟩
  · simp [Value.ownBlock] at e'
  · simp [Value.ownBlock] at e'
    subst e'
    have := h3.symm.trans hh'
    simp at this
    exact hne this.2.1
end
theorem to_own (w : World) (s : ByteArray) (hm : s.size ≤ maxLen) : ∃ A c, (convert 9 37 (.string s)).run Try.prog w = .ok (.slice A s.size c) (w.drew.alloc (.cells (bytesRow s c) 5 ((bytesRow s c).size, (bytesRow s c).size + 1))) ∧
    OwU (w.drew.alloc (.cells (bytesRow s c) 5 ((bytesRow s c).size, (bytesRow s c).size + 1))) w.heap.size A s.size s.data.toList ∧ s.size ≤ c ∧ c ≤ maxLen := by
  refine ⟨_, _, run_bytes_of_string w _ _ _ s Try.underlying9 Try.underlying37 Try.underlying5, ⟨by simp, .inr ⟨w.heap.size, _, _, _, rfl, Nat.le_refl _, heap_alloc_new w.drew _, .inl ?_, fun j c hc => ?_⟩⟩, grownCap_ge w _ _ _, grownCap_le_maxLen w _ _ _ hm⟩
  · simp [bytesRow]
  · have hj : j < s.data.size := by
      have := (List.getElem?_eq_some_iff.1 hc).1
      simpa using this
    rw [bytesRow_at s _ j hj]
    rw [Array.getElem?_toList, Array.getElem?_eq_getElem hj] at hc
    injection hc with hc
    rw [← hc]; rfl
theorem wp_to_own {w : World} {o : Oper} {a : Act} {K : Act → World → Prop} {Q : Exit → Act → World → Prop} (x : Operand) (ho : o.op = .convert 9 37 x)
    (s : ByteArray) (hx : a.eval x = .string s) (hm : s.size ≤ maxLen)
    (h : ∀ (A : Option Addr) (c : Nat) (w' : World), OwU w' w.heap.size A s.size s.data.toList → Below w.heap.size w w' → s.size ≤ c ∧ c ≤ maxLen → K (a.put o.dst (.slice A s.size c)) w') : o.wp Try.prog a w K Q := by
  obtain ⟨A, c, h1, h2, h3⟩ := to_own w s hm
  unfold Oper.wp execOp
  simp only [ho, hx, Sem.run_bind, h1, Result.andThen_ok, Sem.run_pure]
  exact h _ _ _ h2 (((Below.refl _ _).drew).alloc (Nat.le_refl _) _) h3
theorem wpList_to_own {w : World} {ops : Array Oper} {rest : List Oper} {o : Oper} {a : Act} {Q : Exit → Act → World → Prop} (hgd : Region.wanted o (yielded ops a.tmps) = true) (x : Operand) (ho : o.op = .convert 9 37 x)
    (s : ByteArray) (hx : a.eval x = .string s) (hm : s.size ≤ maxLen)
    (h : ∀ (A : Option Addr) (c : Nat) (w' : World), OwU w' w.heap.size A s.size s.data.toList → Below w.heap.size w w' → s.size ≤ c ∧ c ≤ maxLen → wpList Try.prog ops Q rest (a.put o.dst (.slice A s.size c)) w') : wpList Try.prog ops Q (o :: rest) a w :=
  BigFrame.wpList_want hgd fun _ hK => wp_to_own x ho s hx hm fun A c w' h1 h2 h3 => hK _ _ (h A c w' h1 h2 h3)
/-- A region that draws its order, begun: the world behind the draw under a name. -/
theorem bx_go (g : Nat) {P : Program} {ops : Array Oper} {Q : Exit → Act → World → Prop} {id : Nat} {a : Act} {W : World} (hm : P.follows .mixedOrders = true)
    (h : Calm (NoP Q) → ∀ x, Below W.heap.size W x → wpAnyH P .any ops (NoP Q) (BelowX x.heap.size g x) ops.size (Array.replicate ops.size false) a x) : (Code.region id ops true).wp P Q a W :=
  bx_start W.heap.size g hm (fun hc => h hc W.drew (Ext.refl W).draw)
theorem bx_go2 {P : Program} {ops : Array Oper} {Q : Exit → Act → World → Prop} {id : Nat} {a : Act} {W : World} (hm : P.follows .mixedOrders = true)
    (h : Calm (NoP Q) → ∀ x, Below W.heap.size W x → wpAnyH P .any ops (NoP Q) (BelowX x.heap.size x.heap.size x) ops.size (Array.replicate ops.size false) a x) : (Code.region id ops true).wp P Q a W :=
  bx_start W.heap.size W.heap.size hm (fun hc => h hc W.drew (Ext.refl W).draw)
theorem OwU.far {w : World} {B n g : Nat} {A : Option Addr} {l : List UInt8} {t : TypeId} {cs : Array Value} (h : OwU w B A n l) (hg : Blk w g t cs) (hne : 5 ≠ t) (i : Nat) (u : Value) : OwU (w.setCell ⟨g, i, none⟩ u) B A n l := by
  refine ⟨h.1, ?_⟩
  rcases h.2 with h | ⟨g', cur, lo, hi, h1, h2, h3, h4⟩
  · exact .inl h
  · refine .inr ⟨g', cur, lo, hi, h1, h2, ?_, h4⟩
    have hgg : g' ≠ g := by
      rintro rfl
      have := h3.symm.trans hg
      simp at this
      exact hne this.2.1
    exact (Below.heap_setCell w ⟨g, i, none⟩ u g' hgg).trans h3
/-- Blocks that stay as they are while a region's operations come up. -/
def KeepS (L : List (Nat × TypeId × Array Value)) (W : World) : Prop := ∀ t ∈ L, Blk W t.1 t.2.1 t.2.2
theorem KeepS.nil (W : World) : KeepS [] W := by simp [KeepS]
theorem KeepS.cons {W : World} {g : Nat} {t : TypeId} {cs : Array Value} {L : List (Nat × TypeId × Array Value)} (h : Blk W g t cs) (hL : KeepS L W) : KeepS ((g, t, cs) :: L) W := by
  intro x hx
  rcases List.mem_cons.1 hx with rfl | hx
  · exact h
  · exact hL x hx
theorem KeepS.hd {W : World} {g : Nat} {t : TypeId} {cs : Array Value} {L : List (Nat × TypeId × Array Value)} (h : KeepS ((g, t, cs) :: L) W) : Blk W g t cs := h (g, t, cs) List.mem_cons_self
theorem KeepS.tl {W : World} {a : Nat × TypeId × Array Value} {L : List (Nat × TypeId × Array Value)} (h : KeepS (a :: L) W) : KeepS L W := fun x hx => h x (by simp [hx])
section
variable {P : Program} {ops : Array Oper} {Q : Exit → Act → World → Prop} {md : Region.Mode} {S : World → Prop}
theorem s_go (S : World → Prop) {id : Nat} {a : Act} {W : World} (hm : P.follows .mixedOrders = true)
    (h : Calm (NoP Q) → ∀ x, Below W.heap.size W x → S x ∧ wpAnyH P .any ops (NoP Q) S ops.size (Array.replicate ops.size false) a x) : (Code.region id ops true).wp P Q a W :=
  nop_wp (wp_region_held_drew hm (h calm_nop W.drew (Ext.refl W).draw).1 fun _ => (h calm_nop W.drew (Ext.refl W).draw).2)
theorem s_take {i : Nat} {oi : Oper} {v : Value} {fuel : Nat} {listed : Array Bool} {a : Act} {w : World} (hi : ops[i]? = some oi)
    (hs : Region.noSelect ops = true) (hf : Region.free md ops listed i = true) (hr : (Region.ready md ops listed).contains i = true)
    (hQ : Calm Q ∧ S w)
    (hw : Region.wanted oi (yielded ops a.tmps) = true) (hy : ∀ W, S W → (execOp a.eval oi).run P W = .ok (.value v) W)
    (h : wpAnyH P md ops Q S fuel (listed.setIfInBounds i true) (a.put oi.dst v) w) : wpAnyH P md ops Q S (fuel + 1) listed a w :=
  wpAnyH_take hi hs hf hr (fun c a w h => hQ.1 c _ _ w (put_def _ _ _).symm h) (.inl ⟨hw, hy⟩) hQ.2 h
theorem s_skip {i : Nat} {oi : Oper} {fuel : Nat} {listed : Array Bool} {a : Act} {w : World} (hi : ops[i]? = some oi)
    (hs : Region.noSelect ops = true) (hf : Region.free md ops listed i = true) (hr : (Region.ready md ops listed).contains i = true)
    (hQ : Calm Q ∧ S w)
    (hw : Region.wanted oi (yielded ops a.tmps) = false)
    (h : wpAnyH P md ops Q S fuel (listed.setIfInBounds i true) (a.put oi.dst undef) w) : wpAnyH P md ops Q S (fuel + 1) listed a w :=
  wpAnyH_take hi hs hf hr (fun c a w h => hQ.1 c _ _ w (put_def _ _ _).symm h) (.inr ⟨hw, rfl⟩) hQ.2 h
theorem s_step {i : Nat} {oi : Oper} {fuel : Nat} {listed : Array Bool} {a : Act} {w : World} (hr : Region.ready md ops listed = [i]) (hi : ops[i]? = some oi)
    (hw : Region.wanted oi (yielded ops a.tmps) = true)
    (h : ∀ K' : Act → World → Prop, (∀ a' w', S w' → wpAnyH P md ops Q S fuel (listed.setIfInBounds i true) a' w' → K' a' w') → Oper.wp P oi a w K' Q) :
    wpAnyH P md ops Q S (fuel + 1) listed a w :=
  wpAnyH_ready hr (by simp) (AllReadyH.cons hi (fun K' hK => by
    rw [if_pos hw]
    exact h K' fun a' w' hx hW => hK.out a' w' hx fun _ => hW) AllReadyH.nil)
end
theorem reads2_at {w : World} {g : Nat} (hg : w.heap.size = g) (u v : Value) (e : TypeId) : Reads (w.alloc (.cells #[u, v] e)) (w.alloc (.cells #[u, v] e)).heap.size 2 (some ⟨g, 0, none⟩) 1 [u, v] := by
  subst hg
  refine ⟨rfl, fun _ => ⟨_, rfl, by simp, fun j x hx => ?_⟩⟩
  have hadd : (⟨w.heap.size, 0, none⟩ : Addr).add j = ⟨w.heap.size, j, none⟩ := by unfold Addr.add; split <;> simp_all
  rw [hadd, (Blk.new w e #[u, v]).cell j]
  simpa using hx
theorem BelowX.low {B C g : Nat} {w w' : World} (h : BelowX B g w w') (hC : C ≤ B) : BelowX C g w w' := ⟨h.os, h.tape, h.output, h.size, fun k hk hne => h.block k (by omega) hne⟩
section
variable {w : World} {g : Nat} {t : TypeId}
theorem Blk.cf1 {c0 : Value} (h : Blk w g t #[c0]) : w.cell? ⟨g, 0, none⟩ = some c0 ∧ w.frozen? ⟨g, 0, none⟩ = false := ⟨(h.cell 0).trans rfl, h.frozen 0⟩
theorem Blk.cf2 {c0 c1 : Value} (h : Blk w g t #[c0, c1]) : w.cell? ⟨g, 0, none⟩ = some c0 ∧ w.frozen? ⟨g, 0, none⟩ = false ∧ w.cell? ⟨g, 1, none⟩ = some c1 ∧ w.frozen? ⟨g, 1, none⟩ = false := ⟨(h.cell 0).trans rfl, h.frozen 0, (h.cell 1).trans rfl, h.frozen 1⟩
theorem Blk.cf3 {c0 c1 c2 : Value} (h : Blk w g t #[c0, c1, c2]) : w.cell? ⟨g, 0, none⟩ = some c0 ∧ w.frozen? ⟨g, 0, none⟩ = false ∧ w.cell? ⟨g, 1, none⟩ = some c1 ∧ w.frozen? ⟨g, 1, none⟩ = false ∧ w.cell? ⟨g, 2, none⟩ = some c2 ∧ w.frozen? ⟨g, 2, none⟩ = false := ⟨(h.cell 0).trans rfl, h.frozen 0, (h.cell 1).trans rfl, h.frozen 1, (h.cell 2).trans rfl, h.frozen 2⟩
theorem Blk.cf4 {c0 c1 c2 c3 : Value} (h : Blk w g t #[c0, c1, c2, c3]) : w.cell? ⟨g, 0, none⟩ = some c0 ∧ w.frozen? ⟨g, 0, none⟩ = false ∧ w.cell? ⟨g, 1, none⟩ = some c1 ∧ w.frozen? ⟨g, 1, none⟩ = false ∧ w.cell? ⟨g, 2, none⟩ = some c2 ∧ w.frozen? ⟨g, 2, none⟩ = false ∧ w.cell? ⟨g, 3, none⟩ = some c3 ∧ w.frozen? ⟨g, 3, none⟩ = false := ⟨(h.cell 0).trans rfl, h.frozen 0, (h.cell 1).trans rfl, h.frozen 1, (h.cell 2).trans rfl, h.frozen 2, (h.cell 3).trans rfl, h.frozen 3⟩
theorem Blk.cf5 {c0 c1 c2 c3 c4 : Value} (h : Blk w g t #[c0, c1, c2, c3, c4]) : w.cell? ⟨g, 0, none⟩ = some c0 ∧ w.frozen? ⟨g, 0, none⟩ = false ∧ w.cell? ⟨g, 1, none⟩ = some c1 ∧ w.frozen? ⟨g, 1, none⟩ = false ∧ w.cell? ⟨g, 2, none⟩ = some c2 ∧ w.frozen? ⟨g, 2, none⟩ = false ∧ w.cell? ⟨g, 3, none⟩ = some c3 ∧ w.frozen? ⟨g, 3, none⟩ = false ∧ w.cell? ⟨g, 4, none⟩ = some c4 ∧ w.frozen? ⟨g, 4, none⟩ = false := ⟨(h.cell 0).trans rfl, h.frozen 0, (h.cell 1).trans rfl, h.frozen 1, (h.cell 2).trans rfl, h.frozen 2, (h.cell 3).trans rfl, h.frozen 3, (h.cell 4).trans rfl, h.frozen 4⟩
theorem Blk.cf6 {c0 c1 c2 c3 c4 c5 : Value} (h : Blk w g t #[c0, c1, c2, c3, c4, c5]) : w.cell? ⟨g, 0, none⟩ = some c0 ∧ w.frozen? ⟨g, 0, none⟩ = false ∧ w.cell? ⟨g, 1, none⟩ = some c1 ∧ w.frozen? ⟨g, 1, none⟩ = false ∧ w.cell? ⟨g, 2, none⟩ = some c2 ∧ w.frozen? ⟨g, 2, none⟩ = false ∧ w.cell? ⟨g, 3, none⟩ = some c3 ∧ w.frozen? ⟨g, 3, none⟩ = false ∧ w.cell? ⟨g, 4, none⟩ = some c4 ∧ w.frozen? ⟨g, 4, none⟩ = false ∧ w.cell? ⟨g, 5, none⟩ = some c5 ∧ w.frozen? ⟨g, 5, none⟩ = false := ⟨(h.cell 0).trans rfl, h.frozen 0, (h.cell 1).trans rfl, h.frozen 1, (h.cell 2).trans rfl, h.frozen 2, (h.cell 3).trans rfl, h.frozen 3, (h.cell 4).trans rfl, h.frozen 4, (h.cell 5).trans rfl, h.frozen 5⟩
theorem Blk.cf7 {c0 c1 c2 c3 c4 c5 c6 : Value} (h : Blk w g t #[c0, c1, c2, c3, c4, c5, c6]) : w.cell? ⟨g, 0, none⟩ = some c0 ∧ w.frozen? ⟨g, 0, none⟩ = false ∧ w.cell? ⟨g, 1, none⟩ = some c1 ∧ w.frozen? ⟨g, 1, none⟩ = false ∧ w.cell? ⟨g, 2, none⟩ = some c2 ∧ w.frozen? ⟨g, 2, none⟩ = false ∧ w.cell? ⟨g, 3, none⟩ = some c3 ∧ w.frozen? ⟨g, 3, none⟩ = false ∧ w.cell? ⟨g, 4, none⟩ = some c4 ∧ w.frozen? ⟨g, 4, none⟩ = false ∧ w.cell? ⟨g, 5, none⟩ = some c5 ∧ w.frozen? ⟨g, 5, none⟩ = false ∧ w.cell? ⟨g, 6, none⟩ = some c6 ∧ w.frozen? ⟨g, 6, none⟩ = false := ⟨(h.cell 0).trans rfl, h.frozen 0, (h.cell 1).trans rfl, h.frozen 1, (h.cell 2).trans rfl, h.frozen 2, (h.cell 3).trans rfl, h.frozen 3, (h.cell 4).trans rfl, h.frozen 4, (h.cell 5).trans rfl, h.frozen 5, (h.cell 6).trans rfl, h.frozen 6⟩
theorem Blk.cf8 {c0 c1 c2 c3 c4 c5 c6 c7 : Value} (h : Blk w g t #[c0, c1, c2, c3, c4, c5, c6, c7]) : w.cell? ⟨g, 0, none⟩ = some c0 ∧ w.frozen? ⟨g, 0, none⟩ = false ∧ w.cell? ⟨g, 1, none⟩ = some c1 ∧ w.frozen? ⟨g, 1, none⟩ = false ∧ w.cell? ⟨g, 2, none⟩ = some c2 ∧ w.frozen? ⟨g, 2, none⟩ = false ∧ w.cell? ⟨g, 3, none⟩ = some c3 ∧ w.frozen? ⟨g, 3, none⟩ = false ∧ w.cell? ⟨g, 4, none⟩ = some c4 ∧ w.frozen? ⟨g, 4, none⟩ = false ∧ w.cell? ⟨g, 5, none⟩ = some c5 ∧ w.frozen? ⟨g, 5, none⟩ = false ∧ w.cell? ⟨g, 6, none⟩ = some c6 ∧ w.frozen? ⟨g, 6, none⟩ = false ∧ w.cell? ⟨g, 7, none⟩ = some c7 ∧ w.frozen? ⟨g, 7, none⟩ = false := ⟨(h.cell 0).trans rfl, h.frozen 0, (h.cell 1).trans rfl, h.frozen 1, (h.cell 2).trans rfl, h.frozen 2, (h.cell 3).trans rfl, h.frozen 3, (h.cell 4).trans rfl, h.frozen 4, (h.cell 5).trans rfl, h.frozen 5, (h.cell 6).trans rfl, h.frozen 6, (h.cell 7).trans rfl, h.frozen 7⟩
theorem Blk.cf12 {c0 c1 c2 c3 c4 c5 c6 c7 c8 c9 c10 c11 : Value} (h : Blk w g t #[c0, c1, c2, c3, c4, c5, c6, c7, c8, c9, c10, c11]) : w.cell? ⟨g, 0, none⟩ = some c0 ∧ w.frozen? ⟨g, 0, none⟩ = false ∧ w.cell? ⟨g, 1, none⟩ = some c1 ∧ w.frozen? ⟨g, 1, none⟩ = false ∧ w.cell? ⟨g, 2, none⟩ = some c2 ∧ w.frozen? ⟨g, 2, none⟩ = false ∧ w.cell? ⟨g, 3, none⟩ = some c3 ∧ w.frozen? ⟨g, 3, none⟩ = false ∧ w.cell? ⟨g, 4, none⟩ = some c4 ∧ w.frozen? ⟨g, 4, none⟩ = false ∧ w.cell? ⟨g, 5, none⟩ = some c5 ∧ w.frozen? ⟨g, 5, none⟩ = false ∧ w.cell? ⟨g, 6, none⟩ = some c6 ∧ w.frozen? ⟨g, 6, none⟩ = false ∧ w.cell? ⟨g, 7, none⟩ = some c7 ∧ w.frozen? ⟨g, 7, none⟩ = false ∧ w.cell? ⟨g, 8, none⟩ = some c8 ∧ w.frozen? ⟨g, 8, none⟩ = false ∧ w.cell? ⟨g, 9, none⟩ = some c9 ∧ w.frozen? ⟨g, 9, none⟩ = false ∧ w.cell? ⟨g, 10, none⟩ = some c10 ∧ w.frozen? ⟨g, 10, none⟩ = false ∧ w.cell? ⟨g, 11, none⟩ = some c11 ∧ w.frozen? ⟨g, 11, none⟩ = false := ⟨(h.cell 0).trans rfl, h.frozen 0, (h.cell 1).trans rfl, h.frozen 1, (h.cell 2).trans rfl, h.frozen 2, (h.cell 3).trans rfl, h.frozen 3, (h.cell 4).trans rfl, h.frozen 4, (h.cell 5).trans rfl, h.frozen 5, (h.cell 6).trans rfl, h.frozen 6, (h.cell 7).trans rfl, h.frozen 7, (h.cell 8).trans rfl, h.frozen 8, (h.cell 9).trans rfl, h.frozen 9, (h.cell 10).trans rfl, h.frozen 10, (h.cell 11).trans rfl, h.frozen 11⟩
end
theorem KeepS.cf12 (g : Nat) (t : TypeId) (g2 : Nat) (t2 : TypeId) (c0 c1 c2 c3 c4 c5 c6 c7 c8 c9 c10 c11 n : Value) : (∀ W, KeepS [(g, t, #[c0, c1, c2, c3, c4, c5, c6, c7, c8, c9, c10, c11]), (g2, t2, #[n])] W → W.cell? ⟨g, 0, none⟩ = some c0) ∧ (∀ W, KeepS [(g, t, #[c0, c1, c2, c3, c4, c5, c6, c7, c8, c9, c10, c11]), (g2, t2, #[n])] W → W.cell? ⟨g, 1, none⟩ = some c1) ∧ (∀ W, KeepS [(g, t, #[c0, c1, c2, c3, c4, c5, c6, c7, c8, c9, c10, c11]), (g2, t2, #[n])] W → W.cell? ⟨g, 2, none⟩ = some c2) ∧ (∀ W, KeepS [(g, t, #[c0, c1, c2, c3, c4, c5, c6, c7, c8, c9, c10, c11]), (g2, t2, #[n])] W → W.cell? ⟨g, 3, none⟩ = some c3) ∧ (∀ W, KeepS [(g, t, #[c0, c1, c2, c3, c4, c5, c6, c7, c8, c9, c10, c11]), (g2, t2, #[n])] W → W.cell? ⟨g, 4, none⟩ = some c4) ∧ (∀ W, KeepS [(g, t, #[c0, c1, c2, c3, c4, c5, c6, c7, c8, c9, c10, c11]), (g2, t2, #[n])] W → W.cell? ⟨g, 5, none⟩ = some c5) ∧ (∀ W, KeepS [(g, t, #[c0, c1, c2, c3, c4, c5, c6, c7, c8, c9, c10, c11]), (g2, t2, #[n])] W → W.cell? ⟨g, 6, none⟩ = some c6) ∧ (∀ W, KeepS [(g, t, #[c0, c1, c2, c3, c4, c5, c6, c7, c8, c9, c10, c11]), (g2, t2, #[n])] W → W.cell? ⟨g, 7, none⟩ = some c7) ∧ (∀ W, KeepS [(g, t, #[c0, c1, c2, c3, c4, c5, c6, c7, c8, c9, c10, c11]), (g2, t2, #[n])] W → W.cell? ⟨g, 8, none⟩ = some c8) ∧ (∀ W, KeepS [(g, t, #[c0, c1, c2, c3, c4, c5, c6, c7, c8, c9, c10, c11]), (g2, t2, #[n])] W → W.cell? ⟨g, 9, none⟩ = some c9) ∧ (∀ W, KeepS [(g, t, #[c0, c1, c2, c3, c4, c5, c6, c7, c8, c9, c10, c11]), (g2, t2, #[n])] W → W.cell? ⟨g, 10, none⟩ = some c10) ∧ (∀ W, KeepS [(g, t, #[c0, c1, c2, c3, c4, c5, c6, c7, c8, c9, c10, c11]), (g2, t2, #[n])] W → W.cell? ⟨g, 11, none⟩ = some c11) ∧ (∀ W, KeepS [(g, t, #[c0, c1, c2, c3, c4, c5, c6, c7, c8, c9, c10, c11]), (g2, t2, #[n])] W → W.cell? ⟨g2, 0, none⟩ = some n) := ⟨fun _ h => (h.hd.cell 0).trans rfl, fun _ h => (h.hd.cell 1).trans rfl, fun _ h => (h.hd.cell 2).trans rfl, fun _ h => (h.hd.cell 3).trans rfl, fun _ h => (h.hd.cell 4).trans rfl, fun _ h => (h.hd.cell 5).trans rfl, fun _ h => (h.hd.cell 6).trans rfl, fun _ h => (h.hd.cell 7).trans rfl, fun _ h => (h.hd.cell 8).trans rfl, fun _ h => (h.hd.cell 9).trans rfl, fun _ h => (h.hd.cell 10).trans rfl, fun _ h => (h.hd.cell 11).trans rfl, fun _ h => (h.tl.hd.cell 0).trans rfl⟩
theorem Blk.set_same {w : World} {g : Nat} {t : TypeId} {cs : Array Value} (h : Blk w g t cs) (i : Nat) (u : Value) (e : cs[i]? = some u) : Blk (w.setCell ⟨g, i, none⟩ u) g t cs := by
  refine (h.set_ i u).eq_ ?_
  refine Array.ext_getElem? fun k => ?_
  rw [Array.getElem?_setIfInBounds]
  by_cases hk : i = k
  · subst hk
    obtain ⟨hi, _⟩ := Array.getElem?_eq_some_iff.1 e
    rw [if_pos rfl, if_pos hi, e]
  · rw [if_neg hk]
theorem Blk.put12 {w0 x : World} {B g g2 : Nat} {t t2 : TypeId} {c0 c1 c2 c3 c4 c5 c6 c7 c8 c9 c10 c11 n : Value} (h : Blk x g t #[c0, c1, c2, c3, c4, c5, c6, c7, c8, c9, c10, c11]) (h2 : Blk x g2 t2 #[n]) (b : Below B w0 x) (hne : g2 ≠ g) (hg : B ≤ g) : ∃ x8, ((((((((((((x.setCell ⟨g, 0, none⟩ c0).setCell ⟨g, 1, none⟩ c1).setCell ⟨g, 2, none⟩ c2).setCell ⟨g, 3, none⟩ c3).setCell ⟨g, 4, none⟩ c4).setCell ⟨g, 5, none⟩ c5).setCell ⟨g, 6, none⟩ c6).setCell ⟨g, 7, none⟩ c7).setCell ⟨g, 8, none⟩ c8).setCell ⟨g, 9, none⟩ c9).setCell ⟨g, 10, none⟩ c10).setCell ⟨g, 11, none⟩ c11) = x8 ∧ Blk x8 g t #[c0, c1, c2, c3, c4, c5, c6, c7, c8, c9, c10, c11] ∧ Blk x8 g2 t2 #[n] ∧ Below B w0 x8 :=
  ⟨_, rfl, ((((((((((((h.set_same 0 c0 rfl).set_same 1 c1 rfl).set_same 2 c2 rfl).set_same 3 c3 rfl).set_same 4 c4 rfl).set_same 5 c5 rfl).set_same 6 c6 rfl).set_same 7 c7 rfl).set_same 8 c8 rfl).set_same 9 c9 rfl).set_same 10 c10 rfl).set_same 11 c11 rfl), (Blk.far (p := ⟨g, 11, none⟩) (Blk.far (p := ⟨g, 10, none⟩) (Blk.far (p := ⟨g, 9, none⟩) (Blk.far (p := ⟨g, 8, none⟩) (Blk.far (p := ⟨g, 7, none⟩) (Blk.far (p := ⟨g, 6, none⟩) (Blk.far (p := ⟨g, 5, none⟩) (Blk.far (p := ⟨g, 4, none⟩) (Blk.far (p := ⟨g, 3, none⟩) (Blk.far (p := ⟨g, 2, none⟩) (Blk.far (p := ⟨g, 1, none⟩) (Blk.far (p := ⟨g, 0, none⟩) h2 hne c0) hne c1) hne c2) hne c3) hne c4) hne c5) hne c6) hne c7) hne c8) hne c9) hne c10) hne c11), (Below.setCell (p := ⟨g, 11, none⟩) (Below.setCell (p := ⟨g, 10, none⟩) (Below.setCell (p := ⟨g, 9, none⟩) (Below.setCell (p := ⟨g, 8, none⟩) (Below.setCell (p := ⟨g, 7, none⟩) (Below.setCell (p := ⟨g, 6, none⟩) (Below.setCell (p := ⟨g, 5, none⟩) (Below.setCell (p := ⟨g, 4, none⟩) (Below.setCell (p := ⟨g, 3, none⟩) (Below.setCell (p := ⟨g, 2, none⟩) (Below.setCell (p := ⟨g, 1, none⟩) (Below.setCell (p := ⟨g, 0, none⟩) b hg c0) hg c1) hg c2) hg c3) hg c4) hg c5) hg c6) hg c7) hg c8) hg c9) hg c10) hg c11)⟩

end Go.Proofs.Ytkhdeoihjnpnaaa
