/- Contracts and laws of a chapter that its statement of names leans on. Each states its conditions. -/
import Derived.Test.YtldaijkcmnnjpaaWireText
import Derived.BigQuiet
namespace Go.Proofs.Ytldaijkcmnnjpaa
open Go.RowKit Wire
set_option linter.unusedVariables false
/-- A cursor. -/
abbrev cur (A : Option Addr) (n c : Nat) (a : Int) : Value := .agg #[.slice A n c, .int .i64 a]
/-- What New returns: the bytes, the error. -/
def nwL (l : List UInt8) : List UInt8 := if l.length ≤ 200000 then l else []
def nwE (l : List UInt8) : Int := if l.length ≤ 200000 then 0 else 4
theorem cur_sized (u v : Value) : (Try.prog.info? 70).map (·.size) = some (#[u, v] : Array Value).size := by
  show _ = some 2
  kernel_rfl
theorem own_cell_far {w : World} {base g i : Nat} {e : TypeId} {size : Nat} {v : Value} {n : Nat} {xs : List Value} (h : w.ownsRow base e size v n xs) (hg : g < base) (u : Value) : (w.setCell ⟨g, i, none⟩ u).ownsRow base e size v n xs := by
  refine ⟨h.1, ?_⟩
  rcases h.2 with h2 | ⟨k, cap, c, h1, h2, h3, h4⟩
  · exact .inl h2
  · exact .inr ⟨k, cap, c, h1, h2, (Below.heap_setCell w _ u k (by show k ≠ g; omega)).trans h3, h4⟩
set_option maxRecDepth 100000 in
set_option maxHeartbeats 800000 in
theorem new_any (A : Option Addr) (n c : Nat) (l : List UInt8) (w : World) (hr : Rb w A n l) (hn : n ≤ 9223372036854775807) :
    Calls Try.prog 73 #[.slice A n c] w fun e w' => ∃ A' c', e = .returned (.tuple #[cur A' (nwL l).length c' 0, .int .i64 (nwE l)]) ∧ w'.ownsRow w.heap.size 5 1 (.slice A' (nwL l).length c') (nwL l).length ((nwL l).map b8) ∧ Below w.heap.size w w' := by
  have HR := Lib.hid hr
  have hl := hr.len8
  clear hr
  have hB0 := (Below.refl w.heap.size w).alloc (Nat.le_refl _) (.cells #[.slice none 0 0, .int .i64 0] 70)
  have hk0 := Blk.new w 70 #[.slice none 0 0, .int .i64 0]
  by_cases h : n ≤ 200000
  · have HV := Lib.hid (show nwL l = l from if_pos (by omega))
    have HE := Lib.hid (show nwE l = 0 from if_pos (by omega))
    rw [HV.out, HE.out, hl]
    clear HV HE
    have HR2 := Lib.hid (HR.out.below hB0)
    go_enter Try.func73, Try.ntmps73
    go_wp2_with (at_builtin; refine wpList_app rfl (.tmp 8) (.tmp 9) _ rfl sl8 (w.heap.size + 1) _ 0 [] rfl (own_empty_at (alloc_size _ _) (by omega) _ _) _ A n c (l.map b8) rfl (HR2.out.alloc hB0.size _) (b8_one _) (by omega) (by rw [alloc_size, alloc_size]; omega) ?_; intro A2 c2 w2 hown2 hg2 hb2 hc2; have hk2 := (hk0.alloc (.cells #[] 5)).grown hg2 (fun e => by have e2 : some w.heap.size = some (w.heap.size + 1) := e; simp at e2); have hcA : w2.cell? ⟨w.heap.size, 0, none⟩ = some (.slice none 0 0) := (hk2.cell 0).trans rfl; have hcB : w2.cell? ⟨w.heap.size, 1, none⟩ = some (.int .i64 0) := (hk2.cell 1).trans rfl; have hfA := hk2.frozen 0; have hfB := hk2.frozen 1)
    rw [Nat.zero_add] at *
    refine bodyPost_ret (v := .tuple #[cur A2 n c2 0, .int .i64 0]) ((results_arr_tmp (p := 2) (q := 3) rfl _ _ w.heap.size _ #[.slice A2 n c2, .int .i64 0] (0, 0) _ rfl ((hk2.set_ 0 (.slice A2 n c2)).set_ 1 (.int .i64 0)) Try.underlying70 rfl (cur_sized _ _)).trans rfl) rfl ?_
    exact ⟨A2, c2, rfl, own_low (own_cell_far (own_cell_far hown2 (by omega) _) (by omega) _) (by omega), (((hB0.alloc hB0.size _).trans (hb2.mono (by omega))).setCell (Nat.le_refl _) _).setCell (Nat.le_refl _) _⟩
  · have HV := Lib.hid (show nwL l = [] from if_neg (by omega))
    have HE := Lib.hid (show nwE l = 4 from if_neg (by omega))
    rw [HV.out, HE.out]
    go_enter Try.func73, Try.ntmps73
    go_wp2_with fail
    refine bodyPost_ret (v := .tuple #[cur none 0 0 0, .int .i64 4]) ((results_arr_tmp (p := 2) (q := 3) rfl _ _ w.heap.size _ #[.slice none 0 0, .int .i64 0] (0, 0) _ rfl hk0 Try.underlying70 rfl (cur_sized _ _)).trans rfl) rfl ?_
    exact ⟨none, 0, rfl, World.ownsRow_nil _ _ _ _, hB0⟩
/-- The conversion of bytes to a string, in a world. -/
abbrev CvS (A : Option Addr) (n c : Nat) (l : List UInt8) (w : World) : Prop := (convert 25 9 (.slice A n c)).run Try.prog w = .ok (.string ⟨l.toArray⟩) w
theorem cvS {A : Option Addr} {n : Nat} {l : List UInt8} {w : World} {B : Nat} (c : Nat) (h : RdB w B A n l) : CvS A n c l w := conv_to_str _ _ _ Try.underlying25 Try.underlying5 Try.underlying9 c h

end Go.Proofs.Ytldaijkcmnnjpaa
