/- Contracts and laws of a chapter that its statement of names leans on. Each states its conditions. -/
import Derived.Test.YtldaijkcmnnjpaaMem20
import Derived.RangeFuncNested
import Derived.RangeFuncBound
import Derived.RangeFuncCalls
import Derived.RangeFuncLeaves
import Derived.Shelf.Abstract
import Derived.Shelf.RegionOpen
import Derived.WalkKit
import Derived.OwnWalkIn
import Derived.TacticsInMore
import Derived.LoopNIn
import Derived.LoopIn
namespace Go.Proofs.Ytldaijkcmnnjpaa
open Go.RowKit Wire Go.Shelf
set_option linter.unusedVariables false
attribute [local go_sem] Oper.semAt_some
/-- A region that a world holds. -/
def RgOk (w : World) (r : (Nat × List UInt8) × Option Addr × Nat) : Prop := Rb w r.2.1 r.1.2.length r.1.2 ∧ (r.1.2.length ≤ r.2.2 ∧ r.2.2 ≤ 9223372036854775807) ∧ r.1.1 < 18446744073709551616
abbrev Rgn (w : World) : Type := { r : (Nat × List UInt8) × Option Addr × Nat // RgOk w r }
abbrev rgE {w : World} (x : Rgn w) : Array Value := #[Value.agg #[.int .u64 (x.1.1.1 : Int), .slice x.1.2.1 x.1.1.2.length x.1.2.2]]
def rgP {w : World} (x : Rgn w) : Nat × List UInt8 := x.1.1
theorem below_grown {w w' : World} (b : Below w.heap.size w w') : w.grownBy w' none := ⟨b.os, b.tape, b.output, b.size, fun i hi _ => b.block i hi⟩
theorem below_keeps {w w' : World} (b : Below w.heap.size w w') : KeepsOthers w w' := ⟨b.size, fun k o hk _ => (b.block k (Array.getElem?_eq_some_iff.1 hk).1).trans hk⟩
set_option maxRecDepth 100000 in
set_option maxHeartbeats 1600000 in
theorem regions_any (b : Nat) (A0 : Option Addr) (n0 c0 : Nat) (A : Option Addr) (n c : Nat) (w : World) :
    Calls Try.prog 104 #[rgn b A0 n0 c0, .slice A n c] w fun e w' => e = .returned (.func (.func 112) #[] #[.pointer (some ⟨w.heap.size, 0, none⟩), .pointer (some ⟨w.heap.size + 1, 0, none⟩)]) ∧ w' = (w.alloc (.cells #[.int .u64 (b : Int), .slice A0 n0 c0] 75)).alloc (.cells #[.slice A n c] 76) := by
  go_enter Try.func104, Try.ntmps104
  go_wp2_with fail
  go_ret
  exact ⟨rfl, rfl⟩
set_option maxRecDepth 100000 in
set_option maxHeartbeats 4000000 in
/-- What the iterator does with whatever takes its regions. -/
theorem regs1_in (F : Fence) (n : Nat) (hf : F.fn 112) (hro : F.round = none) (hn : 1 ≤ n) (l0 Bh Bs n₀ : Nat) (w : World) (x0 : Rgn w) (A : Option Addr) (m c : Nat) (L : List (Nat × List UInt8)) (hr : RdR w A m L) (hm : m ≤ 1000000)
    (J Jx : List (Rgn w) → World → Prop) (hJ : ∀ (s : List (Rgn w)) (W1 : World) (o : Obj), J s W1 → J s (W1.alloc o))
    (hY : ∀ pre x W, J pre W → pre.length < m + 1 → YieldAt F (n - 1) Try.prog l0 (rgE x) W fun e W' =>
      (e = .returned (.bool true) ∧ J (pre ++ [x]) W' ∧ Below n₀ W W') ∨ (e = .returned (.bool false) ∧ Jx (pre ++ [x]) W'))
    (W : World) (hwn : w.heap.size ≤ n₀) (hw : Below w.heap.size w W) (hBh : Blk W Bh 75 #[.int .u64 (x0.1.1.1 : Int), .slice x0.1.2.1 x0.1.1.2.length x0.1.2.2]) (hh : Bh < n₀) (hBs : Blk W Bs 76 #[.slice A m c]) (hs : Bs < n₀) (h0 : J [] W) :
    CallsIn F n Try.prog 112 #[.func (.yield l0) #[] #[], .pointer (some ⟨Bh, 0, none⟩), .pointer (some ⟨Bs, 0, none⟩)] W fun e W' => (∃ v, e = .returned v) ∧
      ((∃ ys, ys.map rgP = rgP x0 :: L ∧ J ys W') ∨ (∃ pre, pre.map rgP <+: rgP x0 :: L ∧ Jx pre W')) := by
  obtain ⟨fn, tmps, assign, body, hy, hR⟩ := hY [] x0 W h0 (by simp)
  have HR := Lib.hid hr
  have HL := Lib.hid hr.1
  have HY := Lib.hid hY
  have HJ := Lib.hid hJ
  clear hr hY hJ
  refine callsIn_of_wp Try.func112 rfl hf ?_ hro
  simp only [Try.ntmps112, List.size_toArray, List.length_cons, List.length_nil, Nat.reduceAdd, Nat.reduceSub, Array.replicate_succ, Array.replicate_zero, List.push_toArray, List.append_toArray, List.nil_append, List.cons_append]
  have g0 : W.cell? ⟨Bh, 0, none⟩ = some (.int .u64 (x0.1.1.1 : Int)) := (hBh.cell 0).trans rfl
  have g1 : W.cell? ⟨Bh, 1, none⟩ = some (.slice x0.1.2.1 x0.1.1.2.length x0.1.2.2) := (hBh.cell 1).trans rfl
  gi_wp2
  refine hR.mono ?_
  clear g0 g1
  rintro e W3 (⟨rfl, hJ3, hk3⟩ | ⟨rfl, hJx3⟩)
  · have hBs3 := hBs.below hk3 hs
    have hB0 := hw.trans (hk3.mono hwn)
    have g2 : W3.cell? ⟨Bs, 0, none⟩ = some (.slice A m c) := (hBs3.cell 0).trans rfl
    gi_wp2
    clear g2
    gi_loopw [12] (fun i wr => ∃ (k : Nat) (pre : List (Rgn w)), k ≤ m ∧ i = .int .i64 (k : Int) ∧ pre.map rgP = rgP x0 :: L.take k ∧ pre.length = k + 1 ∧ J pre wr ∧ Below w.heap.size w wr) (fun i _ => m - (intOf i).toNat)
    case atStart => exact ⟨0, [x0], by omega, rfl, by simp, rfl, hJ3, hB0⟩
    case round =>
      obtain ⟨k, pre, hk, rfl, hp, hpl, hJk, hBk⟩ := hrel
      have HP := Lib.hid hp
      have HPL := Lib.hid hpl
      clear hp hpl
      by_cases hlt : k < m
      · obtain ⟨ad, b, l, Ai, ci, hA, hab, hz, c0, c1, hci, rl, hb⟩ := (HR.out.mv hBk).at_ hlt
        obtain ⟨ad0, b0, l0_, Ai0, ci0, hA0, _, hz0, d0, d1, hci0, rl0, hb0⟩ := HR.out.at_ hlt
        have hsame : b0 = b ∧ l0_ = l := by rw [hz] at hz0; simp at hz0; exact ⟨hz0.1.symm, hz0.2.symm⟩
        obtain ⟨rfl, rfl⟩ := hsame
        have hx : ∃ x : Rgn w, rgP x = (b0, l0_) ∧ x.1.2.1 = Ai ∧ x.1.2.2 = ci ∧ x.1.1.1 = b0 ∧ x.1.1.2 = l0_ := by
          rw [hA0] at hA
          injection hA with hA
          subst hA
          have e0 := (hBk.cell (p := ad0.add (k * 2 + 1)) (by rw [block_of_add]; assumption)).trans d1
          rw [c1] at e0
          injection e0 with e0
          injection e0 with e1 e2 e3
          subst e1 e3
          exact ⟨⟨((b0, l0_), Ai, ci), rl0, hci0, hb0⟩, rfl, rfl, rfl, rfl, rfl⟩
        obtain ⟨x, hx1, hx2, hx3, hx4, hx5⟩ := hx
        obtain ⟨fn, tmps, assign, body, hy, hR⟩ := HY.out pre x (wr.alloc (.cells #[.int .u64 (b0 : Int), .slice Ai l0_.length ci] 75)) (HJ.out _ _ _ hJk) (by rw [HPL.out]; omega)
        simp only [rgE, hx2, hx3, hx4, hx5] at hy hR
        have HZ := Lib.hid hz
        have HX1 := Lib.hid hx1
        clear hz hz0 hx1 hx2 hx3 hx4 hx5 d0 d1 hA0 rl0
        subst hA
        have c2 : wr.cell? { block := (ad.add (k * 2)).block, off := (ad.add (k * 2)).off + 1 } = some (.slice Ai l0_.length ci) := by
          have e : ({ block := (ad.add (k * 2)).block, off := (ad.add (k * 2)).off + 1 } : Addr) = ad.add (k * 2 + 1) := by simp [Addr.add]; split <;> simp <;> omega
          rw [e]; exact c1

        gi_wp2
        refine hR.mono ?_
        clear c0 c1 c2
        rintro e W5 (⟨rfl, hJ5, hk5⟩ | ⟨rfl, hJx5⟩)
        · gi_wp2
          go_roundw
          case rel => exact ⟨k + 1, pre ++ [x], by omega, by go_num, by rw [List.map_append, HP.out, List.take_add_one, HZ.out]; simp [HX1.out], by simp [HPL.out], hJ5, (hBk.alloc hBk.size _).trans (hk5.mono hwn)⟩
          case measure => simp [intOf]; omega
        · gi_wp2
          refine bodyPost_ret (results_none rfl _ _ _) rfl ?_
          exact ⟨⟨_, rfl⟩, .inr ⟨_, by
            rw [List.map_append, HP.out]
            have e : rgP x0 :: List.take k L ++ [x].map rgP = rgP x0 :: L.take (k + 1) := by rw [List.take_add_one, HZ.out]; simp [HX1.out]
            rw [e]
            exact List.prefix_cons_inj _ |>.2 (List.take_prefix _ _), hJx5⟩⟩
      · gi_wp2
        go_end0
        exact ⟨⟨_, rfl⟩, .inl ⟨pre, by rw [HP.out, List.take_of_length_le (by rw [HL.out]; omega)], hJk⟩⟩
  · gi_wp2
    refine bodyPost_ret (results_none rfl _ _ _) rfl ?_
    exact ⟨⟨_, rfl⟩, .inr ⟨[x0], by simp, hJx3⟩⟩

end Go.Proofs.Ytldaijkcmnnjpaa
