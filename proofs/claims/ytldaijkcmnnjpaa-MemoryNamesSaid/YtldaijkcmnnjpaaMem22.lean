/- Contracts and laws of a chapter that its statement of names leans on. Each states its conditions. -/
import Derived.Test.YtldaijkcmnnjpaaMem21
namespace Go.Proofs.Ytldaijkcmnnjpaa
open Go.RowKit Wire Go.Shelf
set_option linter.unusedVariables false
attribute [local go_sem] Oper.semAt_some
/-- Whether a region has so many bytes from an address on. -/
def hasB (at_ n : Nat) (p : Nat × List UInt8) : Bool := decide (p.1 ≤ at_) && (decide (at_ - p.1 ≤ p.2.length) && decide (n ≤ p.2.length - (at_ - p.1)))
/-- The bytes that the first region has which has them. -/
def fdR (at_ n : Nat) : List (Nat × List UInt8) → Option (List UInt8)
  | [] => none
  | p :: r => if hasB at_ n p then some ((p.2.drop (at_ - p.1)).take n) else fdR at_ n r
def fdL (at_ n : Nat) (L : List (Nat × List UInt8)) : List UInt8 := (fdR at_ n L).getD []
theorem fdR_none {at_ n : Nat} {L : List (Nat × List UInt8)} (h : ∀ p ∈ L, hasB at_ n p = false) : fdR at_ n L = none := by
  induction L with
  | nil => rfl
  | cons p L ih => rw [fdR, if_neg (by simp [h p (by simp)]), ih (fun q hq => h q (by simp [hq]))]
theorem fdR_first {at_ n : Nat} {L : List (Nat × List UInt8)} {pre : List (Nat × List UInt8)} {p : Nat × List UInt8} (h : ∀ q ∈ pre, hasB at_ n q = false) (hp : hasB at_ n p = true) (hL : pre ++ [p] <+: L) : fdR at_ n L = some ((p.2.drop (at_ - p.1)).take n) := by
  obtain ⟨r, rfl⟩ := hL
  induction pre with
  | nil => simp [fdR, hp]
  | cons q pre ih =>
    rw [List.cons_append, List.cons_append, fdR, if_neg (by simp [h q (by simp)])]
    exact ih (fun x hx => h x (by simp [hx]))
theorem size8' : ∀ w, (sizeOf 5).run Try.prog w = .ok 1 w := fun _ => by kernel_rfl
/-- None of some regions has the bytes. -/
def NoB {w : World} (at_ n : Nat) (pre : List (Rgn w)) : Prop := ∀ x ∈ pre, hasB at_ n (rgP x) = false
/-- What find does. -/
def FdP (w : World) (at_ n : Nat) (L : List (Nat × List UInt8)) (e : Ending) (w' : World) : Prop :=
  ∃ A' c', e = .returned (.tuple #[.slice A' (fdL at_ n L).length c', .bool (fdR at_ n L).isSome]) ∧ w'.ownsRow w.heap.size 5 1 (.slice A' (fdL at_ n L).length c') (fdL at_ n L).length ((fdL at_ n L).map b8) ∧ Below w.heap.size w w'
theorem blk_own {β : Type} (g : Nat) (t : TypeId) (cs : Array Value) : Own (fun (_ : β) W => Blk W g t cs) := fun s W W' row hs hg hr => by
  refine hs.grown hg (fun e => ?_)
  obtain ⟨o, ho, hc⟩ := hr g e.symm
  have := hs.symm.trans ho
  injection this with this
  subst this
  simp [Obj.isCells] at hc
theorem own_own {β : Type} (base : Nat) (e : TypeId) (size : Nat) (v : Value) (n : Nat) (xs : List Value) : Own (fun (_ : β) W => W.ownsRow base e size v n xs) := fun s W W' row hs hg hr => by
  refine hs.kept hg ?_
  rcases hs.2 with ⟨rfl, _⟩ | ⟨g, cap, cur, rfl, _, hh, _⟩
  · exact .inl rfl
  · refine .inr fun he => ?_
    simp [Value.ownBlock] at he
    obtain ⟨o, ho, hc⟩ := hr g he.symm
    have := hh.symm.trans ho
    injection this with this
    subst this
    simp [Obj.isCells] at hc
theorem sl_off (A : Option Addr) (n c i : Nat) {a : Int} (ha : a = i) (hc : i ≤ n) (W : World) : (Instr.slice 25 (.slice A n c) (some (.int .u64 a)) none none).run Try.prog W = .ok (.slice (sA A c i) (n - i) (c - i)) W := slice_l Try.underlying25 size8' A n c i ha hc W
theorem sl_head (A : Option Addr) (n c v : Nat) {b : Int} (hb : b = v) (hc : v ≤ c) (W : World) : (Instr.slice 25 (.slice A n c) none (some (.int .i64 b)) none).run Try.prog W = .ok (.slice (sA A c 0) v c) W := by
  have ht' : Try.prog.underlying 25 = some (.slice (Try.prog.elem 25)) := by rw [elem_of Try.underlying25]; exact Try.underlying25
  rw [run_slice_h W 25 A n c ht' .i64 b (by omega) (by omega), elem_of Try.underlying25, size8']
  simp only [Result.andThen, sliced, sA, Nat.zero_mul]
  rw [show b.toNat = v from by omega, Nat.sub_zero, Nat.sub_zero]
set_option maxRecDepth 100000 in
set_option maxHeartbeats 4000000 in
theorem find_any (b : Nat) (A0 : Option Addr) (n0 c0 : Nat) (l0 : List UInt8) (A : Option Addr) (m c : Nat) (L : List (Nat × List UInt8)) (at_ nn : Nat) (w : World) (hr0 : Rb w A0 n0 l0) (hc0 : n0 ≤ c0 ∧ c0 ≤ 9223372036854775807) (hb : b < 18446744073709551616) (hr : RdR w A m L) (hm : m ≤ 1000000) (hat : at_ < 18446744073709551616) (hnn : nn ≤ 4096) :
    Calls Try.prog 76 #[rgn b A0 n0 c0, .slice A m c, .int .u64 (at_ : Int), .int .i64 (nn : Int)] w fun e w' => FdP w at_ nn ((b, l0) :: L) e w' := by
  have hl := hr0.len8
  subst hl
  have hB : Below w.heap.size w (((((((w.alloc (.cells #[.int .u64 (b : Int), .slice A0 l0.length c0] 75)).alloc (.cells #[.int .u64 (at_ : Int)] 55)).alloc (.cells #[.int .i64 (nn : Int)] 3)).alloc (.cells #[.slice none 0 0] 25)).alloc (.cells #[.bool false] 4)).alloc (.cells #[.int .u64 (b : Int), .slice A0 l0.length c0] 75)).alloc (.cells #[.slice A m c] 76)) := (Below.alloc (Below.alloc (Below.alloc (Below.alloc (Below.alloc (Below.alloc (Below.alloc (Below.refl w.heap.size w) (by simp <;> omega) (.cells #[.int .u64 (b : Int), .slice A0 l0.length c0] 75)) (by simp <;> omega) (.cells #[.int .u64 (at_ : Int)] 55)) (by simp <;> omega) (.cells #[.int .i64 (nn : Int)] 3)) (by simp <;> omega) (.cells #[.slice none 0 0] 25)) (by simp <;> omega) (.cells #[.bool false] 4)) (by simp <;> omega) (.cells #[.int .u64 (b : Int), .slice A0 l0.length c0] 75)) (by simp <;> omega) (.cells #[.slice A m c] 76))
  have k4 := Blk.new w 75 #[.int .u64 (b : Int), .slice A0 l0.length c0]
  replace k4 := k4.alloc (.cells #[.int .u64 (at_ : Int)] 55)
  replace k4 := k4.alloc (.cells #[.int .i64 (nn : Int)] 3)
  replace k4 := k4.alloc (.cells #[.slice none 0 0] 25)
  replace k4 := k4.alloc (.cells #[.bool false] 4)
  replace k4 := k4.alloc (.cells #[.int .u64 (b : Int), .slice A0 l0.length c0] 75)
  replace k4 := k4.alloc (.cells #[.slice A m c] 76)
  have k6 := Blk.new (w.alloc (.cells #[.int .u64 (b : Int), .slice A0 l0.length c0] 75)) 55 #[.int .u64 (at_ : Int)]
  rw [show (w.alloc (.cells #[.int .u64 (b : Int), .slice A0 l0.length c0] 75)).heap.size = w.heap.size + 1 from by simp] at k6
  replace k6 := k6.alloc (.cells #[.int .i64 (nn : Int)] 3)
  replace k6 := k6.alloc (.cells #[.slice none 0 0] 25)
  replace k6 := k6.alloc (.cells #[.bool false] 4)
  replace k6 := k6.alloc (.cells #[.int .u64 (b : Int), .slice A0 l0.length c0] 75)
  replace k6 := k6.alloc (.cells #[.slice A m c] 76)
  have k7 := Blk.new ((w.alloc (.cells #[.int .u64 (b : Int), .slice A0 l0.length c0] 75)).alloc (.cells #[.int .u64 (at_ : Int)] 55)) 3 #[.int .i64 (nn : Int)]
  rw [show ((w.alloc (.cells #[.int .u64 (b : Int), .slice A0 l0.length c0] 75)).alloc (.cells #[.int .u64 (at_ : Int)] 55)).heap.size = w.heap.size + 2 from by simp] at k7
  replace k7 := k7.alloc (.cells #[.slice none 0 0] 25)
  replace k7 := k7.alloc (.cells #[.bool false] 4)
  replace k7 := k7.alloc (.cells #[.int .u64 (b : Int), .slice A0 l0.length c0] 75)
  replace k7 := k7.alloc (.cells #[.slice A m c] 76)
  have k8 := Blk.new (((w.alloc (.cells #[.int .u64 (b : Int), .slice A0 l0.length c0] 75)).alloc (.cells #[.int .u64 (at_ : Int)] 55)).alloc (.cells #[.int .i64 (nn : Int)] 3)) 25 #[.slice none 0 0]
  rw [show (((w.alloc (.cells #[.int .u64 (b : Int), .slice A0 l0.length c0] 75)).alloc (.cells #[.int .u64 (at_ : Int)] 55)).alloc (.cells #[.int .i64 (nn : Int)] 3)).heap.size = w.heap.size + 3 from by simp] at k8
  replace k8 := k8.alloc (.cells #[.bool false] 4)
  replace k8 := k8.alloc (.cells #[.int .u64 (b : Int), .slice A0 l0.length c0] 75)
  replace k8 := k8.alloc (.cells #[.slice A m c] 76)
  have k9 := Blk.new ((((w.alloc (.cells #[.int .u64 (b : Int), .slice A0 l0.length c0] 75)).alloc (.cells #[.int .u64 (at_ : Int)] 55)).alloc (.cells #[.int .i64 (nn : Int)] 3)).alloc (.cells #[.slice none 0 0] 25)) 4 #[.bool false]
  rw [show ((((w.alloc (.cells #[.int .u64 (b : Int), .slice A0 l0.length c0] 75)).alloc (.cells #[.int .u64 (at_ : Int)] 55)).alloc (.cells #[.int .i64 (nn : Int)] 3)).alloc (.cells #[.slice none 0 0] 25)).heap.size = w.heap.size + 4 from by simp] at k9
  replace k9 := k9.alloc (.cells #[.int .u64 (b : Int), .slice A0 l0.length c0] 75)
  replace k9 := k9.alloc (.cells #[.slice A m c] 76)
  have kh := Blk.new (((((w.alloc (.cells #[.int .u64 (b : Int), .slice A0 l0.length c0] 75)).alloc (.cells #[.int .u64 (at_ : Int)] 55)).alloc (.cells #[.int .i64 (nn : Int)] 3)).alloc (.cells #[.slice none 0 0] 25)).alloc (.cells #[.bool false] 4)) 75 #[.int .u64 (b : Int), .slice A0 l0.length c0]
  rw [show (((((w.alloc (.cells #[.int .u64 (b : Int), .slice A0 l0.length c0] 75)).alloc (.cells #[.int .u64 (at_ : Int)] 55)).alloc (.cells #[.int .i64 (nn : Int)] 3)).alloc (.cells #[.slice none 0 0] 25)).alloc (.cells #[.bool false] 4)).heap.size = w.heap.size + 5 from by simp] at kh
  replace kh := kh.alloc (.cells #[.slice A m c] 76)
  have ks := Blk.new ((((((w.alloc (.cells #[.int .u64 (b : Int), .slice A0 l0.length c0] 75)).alloc (.cells #[.int .u64 (at_ : Int)] 55)).alloc (.cells #[.int .i64 (nn : Int)] 3)).alloc (.cells #[.slice none 0 0] 25)).alloc (.cells #[.bool false] 4)).alloc (.cells #[.int .u64 (b : Int), .slice A0 l0.length c0] 75)) 76 #[.slice A m c]
  rw [show ((((((w.alloc (.cells #[.int .u64 (b : Int), .slice A0 l0.length c0] 75)).alloc (.cells #[.int .u64 (at_ : Int)] 55)).alloc (.cells #[.int .i64 (nn : Int)] 3)).alloc (.cells #[.slice none 0 0] 25)).alloc (.cells #[.bool false] 4)).alloc (.cells #[.int .u64 (b : Int), .slice A0 l0.length c0] 75)).heap.size = w.heap.size + 6 from by simp] at ks
  have HR0 := Lib.hid hr0
  have HRS := Lib.hid hr
  clear hr0 hr
  have hsz : (((((((w.alloc (.cells #[.int .u64 (b : Int), .slice A0 l0.length c0] 75)).alloc (.cells #[.int .u64 (at_ : Int)] 55)).alloc (.cells #[.int .i64 (nn : Int)] 3)).alloc (.cells #[.slice none 0 0] 25)).alloc (.cells #[.bool false] 4)).alloc (.cells #[.int .u64 (b : Int), .slice A0 l0.length c0] 75)).alloc (.cells #[.slice A m c] 76)).heap.size = w.heap.size + 7 := by simp
  refine (callsIn_wide (n := 10)).1 ?_
  refine callsIn_of_wp_marks Try.func76 rfl trivial ?_ rfl
  simp only [Try.ntmps76, List.size_toArray, List.length_cons, List.length_nil, Nat.reduceAdd, Nat.reduceSub, Array.replicate_succ, Array.replicate_zero, List.push_toArray, List.append_toArray, List.nil_append, List.cons_append]
  have e0 : (((((w.alloc (.cells #[.int .u64 (b : Int), .slice A0 l0.length c0] 75)).alloc (.cells #[.int .u64 (at_ : Int)] 55)).alloc (.cells #[.int .i64 (nn : Int)] 3)).alloc (.cells #[.slice none 0 0] 25)).alloc (.cells #[.bool false] 4)).cell? ⟨w.heap.size, 0, none⟩ = some (.int .u64 (b : Int)) := ((((((Blk.new w 75 #[.int .u64 (b : Int), .slice A0 l0.length c0]).alloc (.cells #[.int .u64 (at_ : Int)] 55)).alloc (.cells #[.int .i64 (nn : Int)] 3)).alloc (.cells #[.slice none 0 0] 25)).alloc (.cells #[.bool false] 4)).cell 0).trans rfl
  have e1 : (((((w.alloc (.cells #[.int .u64 (b : Int), .slice A0 l0.length c0] 75)).alloc (.cells #[.int .u64 (at_ : Int)] 55)).alloc (.cells #[.int .i64 (nn : Int)] 3)).alloc (.cells #[.slice none 0 0] 25)).alloc (.cells #[.bool false] 4)).cell? ⟨w.heap.size, 1, none⟩ = some (.slice A0 l0.length c0) := ((((((Blk.new w 75 #[.int .u64 (b : Int), .slice A0 l0.length c0]).alloc (.cells #[.int .u64 (at_ : Int)] 55)).alloc (.cells #[.int .i64 (nn : Int)] 3)).alloc (.cells #[.slice none 0 0] 25)).alloc (.cells #[.bool false] 4)).cell 1).trans rfl
  gi_wp2
  refine ⟨trivial, (callsIn_wide.2 (regions_any b A0 l0.length c0 A m c _)).mono ?_⟩
  clear e0 e1
  rintro e w' ⟨rfl, rfl⟩
  gi_wp2
  have x0 : Rgn w := ⟨((b, l0), A0, c0), HR0.out, hc0, hb⟩
  simp only [Nat.add_assoc, Nat.reduceAdd]
  obtain ⟨W0, hW0⟩ : ∃ W0, (((((((w.alloc (.cells #[.int .u64 (b : Int), .slice A0 l0.length c0] 75)).alloc (.cells #[.int .u64 (at_ : Int)] 55)).alloc (.cells #[.int .i64 (nn : Int)] 3)).alloc (.cells #[.slice none 0 0] 25)).alloc (.cells #[.bool false] 4)).alloc (.cells #[.int .u64 (b : Int), .slice A0 l0.length c0] 75)).alloc (.cells #[.slice A m c] 76)) = W0 := ⟨_, rfl⟩
  rw [hW0] at k6 k7 k8 k9 kh ks hB hsz ⊢
  clear hW0 k4
  have o6 : w.heap.size ≤ w.heap.size + 1 ∧ w.heap.size + 1 < W0.heap.size := by omega
  have o7 : w.heap.size ≤ w.heap.size + 2 ∧ w.heap.size + 2 < W0.heap.size := by omega
  have o8 : w.heap.size ≤ w.heap.size + 3 ∧ w.heap.size + 3 < w.heap.size + 4 := by omega
  have o9 : w.heap.size ≤ w.heap.size + 4 ∧ w.heap.size + 4 < W0.heap.size := by omega
  clear hsz
  obtain ⟨p4, hp4⟩ : ∃ p4, w.heap.size = p4 := ⟨_, rfl⟩
  generalize w.heap.size + 6 = ps at *
  generalize w.heap.size + 5 = ph at *
  generalize w.heap.size + 4 = p9 at *
  generalize w.heap.size + 3 = p8 at *
  generalize w.heap.size + 2 = p7 at *
  generalize w.heap.size + 1 = p6 at *
  clear hp4
  refine wpIn_rangeFunc_ownH (F := Fence.wide) (n := 10) rfl (by omega) (gf := 112) (lb := #[.pointer (some ⟨ph, 0, none⟩), .pointer (some ⟨ps, 0, none⟩)]) rfl trivial (enters_of Try.func112 (by kernel_rfl) rfl)
    (encs := fun x : Rgn w => rgE x) (Kp := Below W0.heap.size) (S := fun ys => ys.map rgP = (b, l0) :: L) (Sp := fun pre => pre.map rgP <+: (b, l0) :: L) (N := m + 1) (w0 := W0)
    (fun l J Jx W hW hJ hJx hY h0 => regs1_in Fence.wide (10 - 1) trivial rfl (by omega) l ph ps W0.heap.size w ⟨((b, l0), A0, c0), HR0.out, hc0, hb⟩ A m c L HRS.out hm J Jx (fun s W1 o hs => hJ s W1 _ none hs (below_grown (Ext.al W1 o)) (by simp)) hY W hB.size (hB.trans (hW.mono hB.size)) (kh.below hW kh.lt) kh.lt (ks.below hW ks.lt) ks.lt h0)
    belowK_t (belowK_b (Nat.le_refl _)) (Below.refl _ _) (fun _ => rfl)
    (fun pre W => NoB at_ nn pre ∧ Below W0.heap.size W0 W)
    (fun c pre W => (∃ A' c' pre' x, c = .ret ∧ pre = pre' ++ [x] ∧ NoB at_ nn pre' ∧ hasB at_ nn (rgP x) = true ∧
      W.ownsRow w.heap.size 5 1 (.slice A' (((rgP x).2.drop (at_ - (rgP x).1)).take nn).length c') (((rgP x).2.drop (at_ - (rgP x).1)).take nn).length ((((rgP x).2.drop (at_ - (rgP x).1)).take nn).map b8) ∧
      Blk W p8 25 #[.slice A' (((rgP x).2.drop (at_ - (rgP x).1)).take nn).length c'] ∧ Blk W p9 4 #[.bool true]) ∧ Below w.heap.size w W)
    (OwnFrom.and (ownFrom_pure _ _) (ownFrom_below (Nat.le_refl _) (Nat.le_refl _)))
    (fun c => OwnFrom.and (Own.from (fun s X Y row hs hg hr => by
      obtain ⟨A', c', pre', x, h1, h2, h3, h4, h5, h6, h7⟩ := hs
      exact ⟨A', c', pre', x, h1, h2, h3, h4, own_own _ _ _ _ _ _ () X Y row h5 hg hr, blk_own _ _ _ () X Y row h6 hg hr, blk_own _ _ _ () X Y row h7 hg hr⟩) _) (ownFrom_below (Nat.le_refl _) hB.size))
    ⟨by intro x hx; simp at hx, Below.refl _ _⟩
    (fun x a' W => ∃ Bx, W0.heap.size ≤ Bx ∧ Blk W Bx 75 #[.int .u64 (x.1.1.1 : Int), .slice x.1.2.1 x.1.1.2.length x.1.2.2] ∧ a' = { tmps := #[rgn b A0 l0.length c0, .slice A m c, .int .u64 (at_ : Int), .int .i64 (nn : Int), .pointer (some ⟨w.heap.size, 0, none⟩), undef, .pointer (some ⟨p6, 0, none⟩), .pointer (some ⟨p7, 0, none⟩), .pointer (some ⟨p8, 0, none⟩), .pointer (some ⟨p9, 0, none⟩), .pointer (some ⟨Bx, 0, none⟩), undef, .agg #[.int .u64 (b : Int), .slice A0 l0.length c0], .slice A m c, .func (.func 112) #[] #[.pointer (some ⟨ph, 0, none⟩), .pointer (some ⟨ps, 0, none⟩)], .agg #[.int .u64 (x.1.1.1 : Int), .slice x.1.2.1 x.1.1.2.length x.1.2.2], undef, undef, undef, undef, undef, undef, undef, undef, undef, undef, undef, undef, undef, undef, undef, undef, undef, undef, undef, undef, undef, undef, undef, undef, undef, undef, undef, undef, undef, undef], defers := [] })
    (fun x a' _ X Y row hs hg hr => by obtain ⟨Bx, h1, h2, h3⟩ := hs; exact ⟨Bx, h1, blk_own Bx _ _ () X Y row h2 hg (fun r e => (hr r e).2), h3⟩)
    ?assign ?body ?done ?stop
  case assign =>
    rintro l pre x W K ⟨hp, hB1⟩ hK
    gi_wp2
    exact hK _ _ ((KeepsOthers.alloc _ _).from _) ((Below.refl _ W).alloc hB1.size _) ⟨hp, hB1.alloc hB1.size _⟩ ⟨W.heap.size, hB1.size, Blk.new W 75 _, rfl⟩
  case body =>
    rintro l pre x a' W hl ⟨r, hr⟩ ⟨hp, hB1⟩ ⟨Bx, hBx, kx, rfl⟩ hlt
    have HP := Lib.hid hp
    clear hp hr
    replace k6 := k6.below hB1 k6.lt
    replace k7 := k7.below hB1 k7.lt
    replace k8 := k8.below hB1 k8.lt
    replace k9 := k9.below hB1 k9.lt
    have hBw := hB.trans (hB1.mono hB.size)
    obtain ⟨⟨⟨bx, lx⟩, Ax, cx⟩, hxr, hxc, hxb⟩ := x
    simp only at hxr hxc hxb kx
    have c6 : W.cell? ⟨p6, 0, none⟩ = some (.int .u64 (at_ : Int)) := (k6.cell 0).trans rfl
    have c7 : W.cell? ⟨p7, 0, none⟩ = some (.int .i64 (nn : Int)) := (k7.cell 0).trans rfl
    have cx0 : W.cell? ⟨Bx, 0, none⟩ = some (.int .u64 (bx : Int)) := (kx.cell 0).trans rfl
    have cx1 : W.cell? ⟨Bx, 1, none⟩ = some (.slice Ax lx.length cx) := (kx.cell 1).trans rfl
    have GO := Lib.hid (fun (h : hasB at_ nn (bx, lx) = false) => (show NoB at_ nn (pre ++ [(⟨((bx, lx), Ax, cx), hxr, hxc, hxb⟩ : Rgn w)]) from fun y hy => by
      rcases List.mem_append.1 hy with h1 | h1
      · exact HP.out y h1
      · simp at h1; subst h1; exact h))
    by_cases h1 : at_ < bx
    · have HF := Lib.hid (GO.out (by simp [hasB]; omega))
      have d1 : (at_ : Int) < (bx : Int) := by omega
      gi_wp2
      exact ⟨KeepsFrom.refl _ _, Below.refl _ _, HF.out, hB1⟩
    have d1 : ¬ (at_ : Int) < (bx : Int) := by omega
    have hw0 : IntKind.u64.wrap ((at_ : Int) - (bx : Int)) = (at_ : Int) - (bx : Int) := by rw [IntKind.wrap_u64]; omega
    have hw1 : IntKind.u64.wrap (lx.length : Int) = (lx.length : Int) := by rw [IntKind.wrap_u64]; omega
    by_cases h2 : lx.length < at_ - bx
    · have HF := Lib.hid (GO.out (by simp [hasB]; omega))
      have d2 : (lx.length : Int) < (at_ : Int) - (bx : Int) := by omega
      gi_wp2
      exact ⟨KeepsFrom.refl _ _, Below.refl _ _, HF.out, hB1⟩
    have d2 : ¬ (lx.length : Int) < (at_ : Int) - (bx : Int) := by omega
    obtain ⟨i, hi⟩ : ∃ i, at_ - bx = i := ⟨_, rfl⟩
    have hil : i ≤ lx.length := by omega
    have SL := sl_off Ax lx.length cx i (a := (at_ : Int) - (bx : Int)) (by omega) hil
    have HI := Lib.hid hi
    by_cases h3 : lx.length - i < nn
    · have HF := Lib.hid (GO.out (by simp [hasB]; omega))
      have d3 : ((lx.length - i : Nat) : Int) < (nn : Int) := by omega
      have d3' : ¬ nn ≤ lx.length - i := by omega
      clear hi
      gi_wp2
      exact ⟨KeepsFrom.refl _ _, Below.refl _ _, HF.out, hB1⟩
    have d3 : ¬ ((lx.length - i : Nat) : Int) < (nn : Int) := by omega
    have d3' : nn ≤ lx.length - i := by omega
    have HT := Lib.hid (show hasB at_ nn (bx, lx) = true from by simp [hasB]; omega)
    have SH := sl_head (sA Ax cx i) (lx.length - i) (cx - i) nn (b := (nn : Int)) rfl (by omega)
    have hsub := sub_reads (hxr.mv hBw) (i := i) (v := nn) (by omega) (by omega : lx.length ≤ cx)
    have hsub2 : Rb W (sA (sA Ax cx i) (cx - i) 0) nn ((lx.drop i).take nn) := by
      have := sub_reads (sub_reads (hxr.mv hBw) (i := i) (v := lx.length - i) (by omega) (by omega : lx.length ≤ cx)) (i := 0) (v := nn) (by omega) (by omega : lx.length - i ≤ cx - i)
      rwa [List.drop_zero, List.take_take, Nat.min_eq_left (by omega)] at this
    have HLn := Lib.hid (show ((lx.drop i).take nn).length = nn from by rw [List.length_take, List.length_drop]; omega)
    have f8 := k8.frozen 0
    have f9 := k9.frozen 0
    have HTL := Lib.hid (show (lx.drop (at_ - bx)).take nn = (lx.drop i).take nn from by rw [HI.out])
    clear hi hsub
    gi_wp2
    refine ⟨trivial, (CallsIn.inRound l (callsIn_wide.2 (clone_any _ _ _ _ W hsub2 (by omega)))).mono ?_⟩
    rintro e W1 ⟨A', c', rfl, ho, b1⟩
    have g8 : W1.cell? ⟨p8, 0, none⟩ = some (.slice none 0 0) := ((k8.below b1 k8.lt).cell 0).trans rfl
    have g9 : W1.cell? ⟨p9, 0, none⟩ = some (.bool false) := ((k9.below b1 k9.lt).cell 0).trans rfl
    have g8f := (k8.below b1 k8.lt).frozen 0
    have g9f := (k9.below b1 k9.lt).frozen 0
    have hp8 := k8.lt
    have hp9 := k9.lt
    gi_wp2
    have K8 := k8.below b1 k8.lt
    have K9 := k9.below b1 k9.lt
    refine ⟨((below_keeps b1).trans ((KeepsOthers.setCell _ _ _).trans (KeepsOthers.setCell _ _ _))).from _, ⟨A', c', pre, ⟨((bx, lx), Ax, cx), hxr, hxc, hxb⟩, rfl, rfl, HP.out, HT.out, ?_, ?_, ?_⟩, ?_⟩
    · simp only [rgP, HTL.out]
      exact own_set_ (own_not_lt ho hp9) (own_set_ (own_not_lt ho hp8) (own_low ho hBw.size) _) _
    · simp only [rgP, HTL.out]
      exact Blk.eq_ ((K8.set_ 0 _).far (p := ⟨p9, 0, none⟩) (by simp; omega) _) (by rw [HLn.out]; rfl)
    · exact Blk.eq_ ((K9.far (p := ⟨p8, 0, none⟩) (by simp; omega) _).set_ 0 _) (by rfl)
    · exact ((hBw.trans (b1.mono hBw.size)).setCell (p := ⟨p8, 0, none⟩) o8.1 _).setCell (p := ⟨p9, 0, none⟩) o9.1 _
  case done =>
    rintro D ys W hD hS ⟨hp, hB1⟩ hK
    have HF := Lib.hid (show fdR at_ nn ((b, l0) :: L) = none from fdR_none (fun p hp2 => by
      rw [← hS] at hp2
      obtain ⟨x, hx, rfl⟩ := List.mem_map.1 hp2
      exact hp x hx))
    clear hp hS
    replace k8 := k8.below hB1 k8.lt
    replace k9 := k9.below hB1 k9.lt
    have hBw := hB.trans (hB1.mono hB.size)
    have g8 : W.cell? ⟨p8, 0, none⟩ = some (.slice none 0 0) := (k8.cell 0).trans rfl
    have g9 : W.cell? ⟨p9, 0, none⟩ = some (.bool false) := (k9.cell 0).trans rfl
    have g8f := k8.frozen 0
    have g9f := k9.frozen 0
    gi_wp2
    have hK' := ((KeepsOthers.setCell W ⟨p8, 0, none⟩ (.slice none 0 0)).trans (KeepsOthers.setCell _ ⟨p9, 0, none⟩ (.bool false))).same D _ hK rfl
    have K8 := (k8.set_ 0 (.slice none 0 0)).far (p := ⟨p9, 0, none⟩) (by simp; omega) (.bool false)
    have K9 := (k9.far (p := ⟨p8, 0, none⟩) (by simp; omega) (.slice none 0 0)).set_ 0 (.bool false)
    have hB2 := (hBw.setCell (p := ⟨p8, 0, none⟩) o8.1 (.slice none 0 0)).setCell (p := ⟨p9, 0, none⟩) o9.1 (.bool false)
    have q8 := cell_kept ((K8.cell 0).trans (show _ = some (Value.slice none 0 0) from rfl)) (grownBy_putObj' _ D (.deferred none)) (fun r e => by cases e; exact ⟨_, hK', rfl⟩)
    have q9 := cell_kept ((K9.cell 0).trans (show _ = some (Value.bool false) from rfl)) (grownBy_putObj' _ D (.deferred none)) (fun r e => by cases e; exact ⟨_, hK', rfl⟩)
    refine ⟨by simp, .inl ⟨_, _, rfl, run_takeDeferred hK', ?_⟩⟩
    refine ⟨.tuple #[.slice none 0 0, .bool false], ?_, ?_⟩
    · simp [results, Try.f76, go_sem, q8, q9]
    · exact ⟨none, 0, by rw [fdL, HF.out]; rfl, by rw [fdL, HF.out]; exact World.ownsRow_nil _ _ _ _, hB2.trans (belowK_b (w := w) (Nat.le_refl _) _ D _ _ (Nat.le_trans hB.size hD) hK' rfl rfl)⟩
  case stop =>
    rintro D c1 pre W hD hS ⟨⟨A', c', pre', x, rfl, rfl, h3, h4, ho, h6, h7⟩, hBw⟩ hK
    have HF := Lib.hid (show fdR at_ nn ((b, l0) :: L) = some (((rgP x).2.drop (at_ - (rgP x).1)).take nn) from by
      refine fdR_first (pre := pre'.map rgP) (fun q hq => ?_) h4 (by simpa using hS)
      obtain ⟨y, hy, rfl⟩ := List.mem_map.1 hq
      exact h3 y hy)
    clear hS h3 h4
    generalize ((rgP x).2.drop (at_ - (rgP x).1)).take nn = T at *
    gi_wp2
    have q8 := cell_kept ((h6.cell 0).trans (show _ = some (Value.slice A' T.length c') from rfl)) (grownBy_putObj' _ D (.deferred none)) (fun r e => by cases e; exact ⟨_, hK, rfl⟩)
    have q9 := cell_kept ((h7.cell 0).trans (show _ = some (Value.bool true) from rfl)) (grownBy_putObj' _ D (.deferred none)) (fun r e => by cases e; exact ⟨_, hK, rfl⟩)
    refine ⟨by simp, .inl ⟨_, _, rfl, run_takeDeferred hK, ?_⟩⟩
    refine ⟨.tuple #[.slice A' T.length c', .bool true], ?_, ?_⟩
    · simp [results, Try.f76, go_sem, q8, q9]
    · exact ⟨A', c', by rw [fdL, HF.out]; rfl, by rw [fdL, HF.out]; exact ownsRow_putObj ho _ hK rfl, hBw.trans (belowK_b (w := w) (Nat.le_refl _) _ D _ _ (Nat.le_trans hB.size hD) hK rfl rfl)⟩

end Go.Proofs.Ytldaijkcmnnjpaa
