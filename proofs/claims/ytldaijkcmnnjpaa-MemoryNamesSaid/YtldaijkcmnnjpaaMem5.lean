/- Contracts and laws of a chapter that its statement of names leans on. Each states its conditions. -/
import Derived.Test.YtldaijkcmnnjpaaMem4
namespace Go.Proofs.Ytldaijkcmnnjpaa
open Go.RowKit Wire
set_option linter.unusedVariables false
/-- The block of a slice of one's own is not a block of another type. -/
theorem own_ne {w : World} {base g : Nat} {e t : TypeId} {size n : Nat} {v : Value} {xs : List Value} {cs : Array Value} (h : w.ownsRow base e size v n xs) (hk : Blk w g t cs) (hne : t ≠ e) : v.ownBlock ≠ some g := by
  rcases h.2 with ⟨rfl, _⟩ | ⟨g', cap, cur, rfl, _, hh, _⟩
  · simp [Value.ownBlock]
  · intro hg
    have hg' : g' = g := by simpa [Value.ownBlock] using hg
    subst hg'
    have := hk.symm.trans hh
    simp at this
    exact hne this.2
set_option maxRecDepth 100000 in
set_option maxHeartbeats 3200000 in
theorem putr_any (B g b : Nat) (A0 : Option Addr) (n0 c0 : Nat) (out : List UInt8) (Ai : Option Addr) (q ci : Nat) (l : List UInt8) (w : World) (rl : ∀ W, BelowX B g w W → Rb W Ai q l) (hl : l.length = q) (hq : q ≤ 1000000) (hn0 : n0 ≤ 1000000000) (hlen : out.length = n0) (hB : B ≤ w.heap.size) (hk : Blk w g 25 #[.slice A0 n0 c0]) (hown : w.ownsRow B 5 1 (.slice A0 n0 c0) n0 (out.map b8)) :
    Calls Try.prog 77 #[rgn b Ai q ci, .pointer (some ⟨g, 0, none⟩)] w fun e w' => e = .returned (.tuple #[]) ∧ ∃ A' c' m, (out ++ (vry l.length ++ l)).length = m ∧ Blk w' g 25 #[.slice A' m c'] ∧ w'.ownsRow B 5 1 (.slice A' m c') m ((out ++ (vry l.length ++ l)).map b8) ∧ BelowX B g w w' := by
  have hv := (vry_len q).2
  have b1 := Ext.al w (.cells #[.int .u64 (b : Int), .slice Ai q ci] 75)
  have hp := Blk.new w 75 #[.int .u64 (b : Int), .slice Ai q ci]
  have hpn : (Value.slice A0 n0 c0).ownBlock ≠ some w.heap.size := fun h => by have := (hown.lt _ h).2; omega
  have hgp : g ≠ w.heap.size := by have := hk.lt; omega
  replace hown := own_call hown b1
  replace hk := hk.below b1 hk.lt
  have hX := BelowX.of (Below.mono b1 hB) g
  have hz := Nat.le_trans hB b1.size
  go_enter Try.func77, Try.ntmps77
  go_wp2_with fail
  refine nop_wp (any_start (by kernel_rfl) calm_nop (fun hQ => ?_))
  replace hk := hk.drew
  replace hp := hp.drew
  replace hown := own_call hown ((Ext.refl _).draw)
  replace hX := hX.drew
  have hz : B ≤ (w.alloc (.cells #[.int .u64 (b : Int), .slice Ai q ci] 75)).drew.heap.size := hz
  clear b1
  have hw0 : IntKind.u64.wrap (q : Int) = (q : Int) := by rw [IntKind.wrap_u64]; omega
  generalize (w.alloc (.cells #[.int .u64 (b : Int), .slice Ai q ci] 75)).drew = x at *
  generalize w.heap.size = p at *
  have c0' : x.cell? ⟨g, 0, none⟩ = some (.slice A0 n0 c0) := (hk.cell 0).trans rfl
  have c1' : x.cell? ⟨p, 1, none⟩ = some (.slice Ai q ci) := (hp.cell 1).trans rfl
  refine any_take (i := 1) (oi := ?oia1x1) (v := ?va1x1) ?hia1x1 (by kernel_rfl) (by kernel_rfl) (by kernel_rfl) hQ ?hwa1x1 ?hya1x1 ?resta1x1
  case hia1x1 => simp only [List.getElem?_toArray, List.getElem?_cons_zero, List.getElem?_cons_succ]; rfl
  case hwa1x1 => rfl
  case hya1x1 => intro W hW; go_simp; with_reducible rfl
  simp only [Act.put, List.setIfInBounds_toArray, List.set_cons_zero, List.set_cons_succ]
  refine any_two (i := 0) (j := 2) (oi := ?oia0x2) (oj := ?oja0x2) (by kernel_rfl) ?hia0x2 ?hja0x2 ?hwa0x2 ?hva0x2 (fun K hK => ?_) (fun K hK => ?_)
  case hia0x2 => simp only [List.getElem?_toArray, List.getElem?_cons_zero]; rfl
  case hja0x2 => simp only [List.getElem?_toArray, List.getElem?_cons_zero, List.getElem?_cons_succ]; rfl
  case hwa0x2 => rfl
  case hva0x2 => rfl
  · go_simp
    refine hK _ _ ?_
    try simp only [Act.put, List.setIfInBounds_toArray, List.set_cons_zero, List.set_cons_succ]
    refine any_one (i := 2) (oi := ?oia2x3) (by kernel_rfl) ?hia2x3 ?hwa2x3 (fun K hK => ?_)
    case hia2x3 => simp only [List.getElem?_toArray, List.getElem?_cons_zero, List.getElem?_cons_succ]; rfl
    case hwa2x3 => rfl
    go_simp
    refine hK _ _ ?_
    try simp only [Act.put, List.setIfInBounds_toArray, List.set_cons_zero, List.set_cons_succ]
    refine any_take (i := 3) (oi := ?oia3x4) (v := ?va3x4) ?hia3x4 (by kernel_rfl) (by kernel_rfl) (by kernel_rfl) hQ ?hwa3x4 ?hya3x4 ?resta3x4
    case hia3x4 => simp only [List.getElem?_toArray, List.getElem?_cons_zero, List.getElem?_cons_succ]; rfl
    case hwa3x4 => rfl
    case hya3x4 => intro W hW; go_simp; with_reducible rfl
    simp only [Act.put, List.setIfInBounds_toArray, List.set_cons_zero, List.set_cons_succ]
    refine any_take (i := 4) (oi := ?oia4x5) (v := ?va4x5) ?hia4x5 (by kernel_rfl) (by kernel_rfl) (by kernel_rfl) hQ ?hwa4x5 ?hya4x5 ?resta4x5
    case hia4x5 => simp only [List.getElem?_toArray, List.getElem?_cons_zero, List.getElem?_cons_succ]; rfl
    case hwa4x5 => rfl
    case hya4x5 => intro W hW; go_simp; with_reducible rfl
    simp only [Act.put, List.setIfInBounds_toArray, List.set_cons_zero, List.set_cons_succ]
    refine any_one (i := 5) (oi := ?oia5x6) (by kernel_rfl) ?hia5x6 ?hwa5x6 (fun K hK => ?_)
    case hia5x6 => simp only [List.getElem?_toArray, List.getElem?_cons_zero, List.getElem?_cons_succ]; rfl
    case hwa5x6 => rfl
    go_simp
    refine (vary_any q (by omega) _).mono ?_; rintro e w6 ⟨A6, c6, rfl, o6, b⟩; have R6 := own_rd o6; have hk := hk.below b hk.lt; have hp := hp.below b hp.lt; have hown := own_call hown b; have hX := hX.call hz b; have hz := Nat.le_trans hz b.size; have hcc : w6.cell? ⟨g, 0, none⟩ = some (.slice A0 n0 c0) := (hk.cell 0).trans rfl; refine hK _ _ ?_
    try simp only [Act.put, List.setIfInBounds_toArray, List.set_cons_zero, List.set_cons_succ]
    refine any_one (i := 6) (oi := ?oia6x7) (by kernel_rfl) ?hia6x7 ?hwa6x7 (fun K hK => ?_)
    case hia6x7 => simp only [List.getElem?_toArray, List.getElem?_cons_zero, List.getElem?_cons_succ]; rfl
    case hwa6x7 => rfl
    (refine wp_app8g (.tmp 3) (.tmp 8) _ (by rfl) sl8 B (by rfl) hown (by rfl) R6 (n0 + (vry q).length) rfl (by omega) hz ?_; intro A7 c7 w7 o7 hg7 b7; have hk7 := hk.grown hg7 (fun h => own_ne hown hk (by decide) h.symm); have hp7 := hp.grown hg7 (fun h => hpn h.symm); have hX7 := hX.trans (BelowX.of b7 g); have hz7 := Nat.le_trans hz b7.size; have hcd : w7.cell? ⟨g, 0, none⟩ = some (.slice A0 n0 c0) := (hk7.cell 0).trans rfl; have cf := hk7.frozen 0; refine hK _ _ ?_)
    try simp only [Act.put, List.setIfInBounds_toArray, List.set_cons_zero, List.set_cons_succ]
    refine any_one (i := 7) (oi := ?oia7x8) (by kernel_rfl) ?hia7x8 ?hwa7x8 (fun K hK => ?_)
    case hia7x8 => simp only [List.getElem?_toArray, List.getElem?_cons_zero, List.getElem?_cons_succ]; rfl
    case hwa7x8 => rfl
    go_simp
    refine hK _ _ ?_
    try simp only [Act.put, List.setIfInBounds_toArray, List.set_cons_zero, List.set_cons_succ]
    refine wpAnyH_done (by kernel_rfl) ?_ _
    simp only [NoP]
    have hk8 := hk7.set_ 0 (.slice A7 (n0 + (vry q).length) c7)
    have hX8 := hX7.set_ 0 (.slice A7 (n0 + (vry q).length) c7)
    have hp8 := hp7.far (p := ⟨g, 0, none⟩) (fun e => hgp e.symm) (.slice A7 (n0 + (vry q).length) c7)
    have o8 := ownsRow_setCell_other o7 (a := ⟨g, 0, none⟩) (own_ne o7 hk7 (by decide)) (.slice A7 (n0 + (vry q).length) c7)
    have hz8 : B ≤ (w7.setCell ⟨g, 0, none⟩ (.slice A7 (n0 + (vry q).length) c7)).heap.size := by simp; omega
    generalize w7.setCell ⟨g, 0, none⟩ (.slice A7 (n0 + (vry q).length) c7) = y at *
    have R8 := rl _ hX8
    have d0' : y.cell? ⟨g, 0, none⟩ = some (.slice A7 (n0 + (vry q).length) c7) := (hk8.cell 0).trans rfl
    have d1' : y.cell? ⟨p, 1, none⟩ = some (.slice Ai q ci) := (hp8.cell 1).trans rfl
    go_wp2_with (at_builtin; refine wpList_app8g rfl (.tmp 10) (.tmp 12) _ (by rfl) sl8 B (by rfl) o8 (by rfl) R8 (n0 + (vry q).length + q) rfl (by omega) hz8 ?_; intro A9 c9 w9 o9 hg9 b9; have hk9 := hk8.grown hg9 (fun h => own_ne o8 hk8 (by decide) h.symm); have hX9 := hX8.trans (BelowX.of b9 g); have hce : w9.cell? ⟨g, 0, none⟩ = some (.slice A7 (n0 + (vry q).length) c7) := (hk9.cell 0).trans rfl; have cf9 := hk9.frozen 0)
    go_end0
    exact ⟨rfl, A9, c9, n0 + (vry q).length + q, by rw [hl]; simp only [List.length_append]; omega, hk9.set_ 0 _, by rw [hl, ← List.append_assoc]; exact ownsRow_setCell_other o9 (a := ⟨g, 0, none⟩) (own_ne o9 hk9 (by decide)) _, hX9.set_ 0 _⟩
  · go_simp
    refine hK _ _ ?_
    try simp only [Act.put, List.setIfInBounds_toArray, List.set_cons_zero, List.set_cons_succ]
    refine any_take (i := 3) (oi := ?oia3x9) (v := ?va3x9) ?hia3x9 (by kernel_rfl) (by kernel_rfl) (by kernel_rfl) hQ ?hwa3x9 ?hya3x9 ?resta3x9
    case hia3x9 => simp only [List.getElem?_toArray, List.getElem?_cons_zero, List.getElem?_cons_succ]; rfl
    case hwa3x9 => rfl
    case hya3x9 => intro W hW; go_simp; with_reducible rfl
    simp only [Act.put, List.setIfInBounds_toArray, List.set_cons_zero, List.set_cons_succ]
    refine any_take (i := 4) (oi := ?oia4x10) (v := ?va4x10) ?hia4x10 (by kernel_rfl) (by kernel_rfl) (by kernel_rfl) hQ ?hwa4x10 ?hya4x10 ?resta4x10
    case hia4x10 => simp only [List.getElem?_toArray, List.getElem?_cons_zero, List.getElem?_cons_succ]; rfl
    case hwa4x10 => rfl
    case hya4x10 => intro W hW; go_simp; with_reducible rfl
    simp only [Act.put, List.setIfInBounds_toArray, List.set_cons_zero, List.set_cons_succ]
    refine any_two (i := 0) (j := 5) (oi := ?oia0x11) (oj := ?oja0x11) (by kernel_rfl) ?hia0x11 ?hja0x11 ?hwa0x11 ?hva0x11 (fun K hK => ?_) (fun K hK => ?_)
    case hia0x11 => simp only [List.getElem?_toArray, List.getElem?_cons_zero]; rfl
    case hja0x11 => simp only [List.getElem?_toArray, List.getElem?_cons_zero, List.getElem?_cons_succ]; rfl
    case hwa0x11 => rfl
    case hva0x11 => rfl
    · go_simp
      refine hK _ _ ?_
      try simp only [Act.put, List.setIfInBounds_toArray, List.set_cons_zero, List.set_cons_succ]
      refine any_one (i := 5) (oi := ?oia5x12) (by kernel_rfl) ?hia5x12 ?hwa5x12 (fun K hK => ?_)
      case hia5x12 => simp only [List.getElem?_toArray, List.getElem?_cons_zero, List.getElem?_cons_succ]; rfl
      case hwa5x12 => rfl
      go_simp
      refine (vary_any q (by omega) _).mono ?_; rintro e w6 ⟨A6, c6, rfl, o6, b⟩; have R6 := own_rd o6; have hk := hk.below b hk.lt; have hp := hp.below b hp.lt; have hown := own_call hown b; have hX := hX.call hz b; have hz := Nat.le_trans hz b.size; have hcc : w6.cell? ⟨g, 0, none⟩ = some (.slice A0 n0 c0) := (hk.cell 0).trans rfl; refine hK _ _ ?_
      try simp only [Act.put, List.setIfInBounds_toArray, List.set_cons_zero, List.set_cons_succ]
      refine any_one (i := 6) (oi := ?oia6x13) (by kernel_rfl) ?hia6x13 ?hwa6x13 (fun K hK => ?_)
      case hia6x13 => simp only [List.getElem?_toArray, List.getElem?_cons_zero, List.getElem?_cons_succ]; rfl
      case hwa6x13 => rfl
      (refine wp_app8g (.tmp 3) (.tmp 8) _ (by rfl) sl8 B (by rfl) hown (by rfl) R6 (n0 + (vry q).length) rfl (by omega) hz ?_; intro A7 c7 w7 o7 hg7 b7; have hk7 := hk.grown hg7 (fun h => own_ne hown hk (by decide) h.symm); have hp7 := hp.grown hg7 (fun h => hpn h.symm); have hX7 := hX.trans (BelowX.of b7 g); have hz7 := Nat.le_trans hz b7.size; have hcd : w7.cell? ⟨g, 0, none⟩ = some (.slice A0 n0 c0) := (hk7.cell 0).trans rfl; have cf := hk7.frozen 0; refine hK _ _ ?_)
      try simp only [Act.put, List.setIfInBounds_toArray, List.set_cons_zero, List.set_cons_succ]
      refine any_one (i := 7) (oi := ?oia7x14) (by kernel_rfl) ?hia7x14 ?hwa7x14 (fun K hK => ?_)
      case hia7x14 => simp only [List.getElem?_toArray, List.getElem?_cons_zero, List.getElem?_cons_succ]; rfl
      case hwa7x14 => rfl
      go_simp
      refine hK _ _ ?_
      try simp only [Act.put, List.setIfInBounds_toArray, List.set_cons_zero, List.set_cons_succ]
      refine wpAnyH_done (by kernel_rfl) ?_ _
      simp only [NoP]
      have hk8 := hk7.set_ 0 (.slice A7 (n0 + (vry q).length) c7)
      have hX8 := hX7.set_ 0 (.slice A7 (n0 + (vry q).length) c7)
      have hp8 := hp7.far (p := ⟨g, 0, none⟩) (fun e => hgp e.symm) (.slice A7 (n0 + (vry q).length) c7)
      have o8 := ownsRow_setCell_other o7 (a := ⟨g, 0, none⟩) (own_ne o7 hk7 (by decide)) (.slice A7 (n0 + (vry q).length) c7)
      have hz8 : B ≤ (w7.setCell ⟨g, 0, none⟩ (.slice A7 (n0 + (vry q).length) c7)).heap.size := by simp; omega
      generalize w7.setCell ⟨g, 0, none⟩ (.slice A7 (n0 + (vry q).length) c7) = y at *
      have R8 := rl _ hX8
      have d0' : y.cell? ⟨g, 0, none⟩ = some (.slice A7 (n0 + (vry q).length) c7) := (hk8.cell 0).trans rfl
      have d1' : y.cell? ⟨p, 1, none⟩ = some (.slice Ai q ci) := (hp8.cell 1).trans rfl
      go_wp2_with (at_builtin; refine wpList_app8g rfl (.tmp 10) (.tmp 12) _ (by rfl) sl8 B (by rfl) o8 (by rfl) R8 (n0 + (vry q).length + q) rfl (by omega) hz8 ?_; intro A9 c9 w9 o9 hg9 b9; have hk9 := hk8.grown hg9 (fun h => own_ne o8 hk8 (by decide) h.symm); have hX9 := hX8.trans (BelowX.of b9 g); have hce : w9.cell? ⟨g, 0, none⟩ = some (.slice A7 (n0 + (vry q).length) c7) := (hk9.cell 0).trans rfl; have cf9 := hk9.frozen 0)
      go_end0
      exact ⟨rfl, A9, c9, n0 + (vry q).length + q, by rw [hl]; simp only [List.length_append]; omega, hk9.set_ 0 _, by rw [hl, ← List.append_assoc]; exact ownsRow_setCell_other o9 (a := ⟨g, 0, none⟩) (own_ne o9 hk9 (by decide)) _, hX9.set_ 0 _⟩
    · go_simp
      refine (vary_any q (by omega) _).mono ?_; rintro e w6 ⟨A6, c6, rfl, o6, b⟩; have R6 := own_rd o6; have hk := hk.below b hk.lt; have hp := hp.below b hp.lt; have hown := own_call hown b; have hX := hX.call hz b; have hz := Nat.le_trans hz b.size; have hcc : w6.cell? ⟨g, 0, none⟩ = some (.slice A0 n0 c0) := (hk.cell 0).trans rfl; refine hK _ _ ?_
      try simp only [Act.put, List.setIfInBounds_toArray, List.set_cons_zero, List.set_cons_succ]
      refine any_one (i := 0) (oi := ?oia0x15) (by kernel_rfl) ?hia0x15 ?hwa0x15 (fun K hK => ?_)
      case hia0x15 => simp only [List.getElem?_toArray, List.getElem?_cons_zero]; rfl
      case hwa0x15 => rfl
      go_simp
      refine hK _ _ ?_
      try simp only [Act.put, List.setIfInBounds_toArray, List.set_cons_zero, List.set_cons_succ]
      refine any_one (i := 6) (oi := ?oia6x16) (by kernel_rfl) ?hia6x16 ?hwa6x16 (fun K hK => ?_)
      case hia6x16 => simp only [List.getElem?_toArray, List.getElem?_cons_zero, List.getElem?_cons_succ]; rfl
      case hwa6x16 => rfl
      (refine wp_app8g (.tmp 3) (.tmp 8) _ (by rfl) sl8 B (by rfl) hown (by rfl) R6 (n0 + (vry q).length) rfl (by omega) hz ?_; intro A7 c7 w7 o7 hg7 b7; have hk7 := hk.grown hg7 (fun h => own_ne hown hk (by decide) h.symm); have hp7 := hp.grown hg7 (fun h => hpn h.symm); have hX7 := hX.trans (BelowX.of b7 g); have hz7 := Nat.le_trans hz b7.size; have hcd : w7.cell? ⟨g, 0, none⟩ = some (.slice A0 n0 c0) := (hk7.cell 0).trans rfl; have cf := hk7.frozen 0; refine hK _ _ ?_)
      try simp only [Act.put, List.setIfInBounds_toArray, List.set_cons_zero, List.set_cons_succ]
      refine any_one (i := 7) (oi := ?oia7x17) (by kernel_rfl) ?hia7x17 ?hwa7x17 (fun K hK => ?_)
      case hia7x17 => simp only [List.getElem?_toArray, List.getElem?_cons_zero, List.getElem?_cons_succ]; rfl
      case hwa7x17 => rfl
      go_simp
      refine hK _ _ ?_
      try simp only [Act.put, List.setIfInBounds_toArray, List.set_cons_zero, List.set_cons_succ]
      refine wpAnyH_done (by kernel_rfl) ?_ _
      simp only [NoP]
      have hk8 := hk7.set_ 0 (.slice A7 (n0 + (vry q).length) c7)
      have hX8 := hX7.set_ 0 (.slice A7 (n0 + (vry q).length) c7)
      have hp8 := hp7.far (p := ⟨g, 0, none⟩) (fun e => hgp e.symm) (.slice A7 (n0 + (vry q).length) c7)
      have o8 := ownsRow_setCell_other o7 (a := ⟨g, 0, none⟩) (own_ne o7 hk7 (by decide)) (.slice A7 (n0 + (vry q).length) c7)
      have hz8 : B ≤ (w7.setCell ⟨g, 0, none⟩ (.slice A7 (n0 + (vry q).length) c7)).heap.size := by simp; omega
      generalize w7.setCell ⟨g, 0, none⟩ (.slice A7 (n0 + (vry q).length) c7) = y at *
      have R8 := rl _ hX8
      have d0' : y.cell? ⟨g, 0, none⟩ = some (.slice A7 (n0 + (vry q).length) c7) := (hk8.cell 0).trans rfl
      have d1' : y.cell? ⟨p, 1, none⟩ = some (.slice Ai q ci) := (hp8.cell 1).trans rfl
      go_wp2_with (at_builtin; refine wpList_app8g rfl (.tmp 10) (.tmp 12) _ (by rfl) sl8 B (by rfl) o8 (by rfl) R8 (n0 + (vry q).length + q) rfl (by omega) hz8 ?_; intro A9 c9 w9 o9 hg9 b9; have hk9 := hk8.grown hg9 (fun h => own_ne o8 hk8 (by decide) h.symm); have hX9 := hX8.trans (BelowX.of b9 g); have hce : w9.cell? ⟨g, 0, none⟩ = some (.slice A7 (n0 + (vry q).length) c7) := (hk9.cell 0).trans rfl; have cf9 := hk9.frozen 0)
      go_end0
      exact ⟨rfl, A9, c9, n0 + (vry q).length + q, by rw [hl]; simp only [List.length_append]; omega, hk9.set_ 0 _, by rw [hl, ← List.append_assoc]; exact ownsRow_setCell_other o9 (a := ⟨g, 0, none⟩) (own_ne o9 hk9 (by decide)) _, hX9.set_ 0 _⟩

end Go.Proofs.Ytldaijkcmnnjpaa
