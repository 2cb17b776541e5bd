/- Numbers of four bytes, a prefix, and Long. Each states its conditions. -/
import Derived.Test.YteaaiacgebikpaaSec8
import Derived.Test.YteaaiacgebikpaaSec6
import Derived.Test.YteaaiacgebikpaaSec5
import Derived.BigQuiet
import Derived.Lib.EndianBits
namespace Go.Proofs.Yteaaiacgebikpaa
open Go.RowKit Wire Crc
set_option linter.unusedVariables false

/-- The number of the first four bytes. -/
def num4 (l : List UInt8) : Nat := unl (l.take 4)
theorem add_lit (ad : Addr) (k : Nat) (h : 0 < k) : ad.add k = { block := ad.block, off := ad.off + k } := by simp [Addr.add]; omega
theorem add_zero5 (ad : Addr) : ad.add 0 = ad := by simp [Addr.add]
theorem num4_ltl {x : Nat} (hx : x < 4294967296) (r : List UInt8) : num4 (ltl 4 x ++ r) = x := by
  rw [num4, List.take_append_of_le_length (by rw [ltl_len]; omega), List.take_of_length_le (by rw [ltl_len]; omega), unl_ltl]
  omega
theorem num4_lt (l : List UInt8) : num4 l < 4294967296 := by
  have h := unl_lt (l.take 4)
  have h2 : (l.take 4).length ≤ 4 := by rw [List.length_take]; omega
  exact Nat.lt_of_lt_of_le h (Nat.pow_le_pow_right (n := 256) (by omega) h2)
theorem num4_eq (a b c d : UInt8) (r : List UInt8) : num4 (a :: b :: c :: d :: r) = a.toNat + b.toNat * 256 + c.toNat * 65536 + d.toNat * 16777216 := by
  simp [num4, unl]; omega

theorem size8s : ∀ w, (sizeOf 5).run Try.prog w = .ok 1 w := fun _ => by kernel_rfl
theorem sl5_lh {k1 k2 : IntKind} (A : Option Addr) (n c i v : Nat) {a b : Int} (ha : a = i) (hb : b = i + v) (hc : i + v ≤ c) (W : World) :
    (Instr.slice 22 (.slice A n c) (some (.int k1 a)) (some (.int k2 b)) none).run Try.prog W = .ok (.slice (sA A c i) v (c - i)) W := slice_lh Try.underlying22 size8s A n c i v ha hb hc W
theorem sl5_l {k1 : IntKind} (A : Option Addr) (n c i : Nat) {a : Int} (ha : a = i) (hc : i ≤ n) (W : World) :
    (Instr.slice 22 (.slice A n c) (some (.int k1 a)) none none).run Try.prog W = .ok (.slice (sA A c i) (n - i) (c - i)) W := slice_l Try.underlying22 size8s A n c i ha hc W
theorem sl5_h {k2 : IntKind} (A : Option Addr) (n c v : Nat) {b : Int} (hb : b = v) (hc : v ≤ c) (W : World) : (Instr.slice 22 (.slice A n c) none (some (.int k2 b)) none).run Try.prog W = .ok (.slice (sA A c 0) v c) W := by
  have ht' : Try.prog.underlying 22 = some (.slice (Try.prog.elem 22)) := by rw [elem_of Try.underlying22]; exact Try.underlying22
  rw [run_slice_h W 22 A n c ht' k2 b (by omega) (by omega), elem_of Try.underlying22, size8s]
  simp only [Result.andThen, sliced, sA, Nat.mul_one]
  subst hb
  simp

set_option maxRecDepth 100000 in
set_option maxHeartbeats 1600000 in
theorem number25_any (A : Option Addr) (n c : Nat) (l : List UInt8) (w : World) (hr : Rb w A n l) (hn : 4 ≤ n) :
    Calls Try.prog 30 #[.slice A n c] w fun e w' => e = .returned (.int .u64 (num4 l : Nat)) ∧ Below w.heap.size w w' := by
  have hl := hr.len8
  obtain ⟨x0, x1, x2, x3, r, rfl⟩ : ∃ x0 x1 x2 x3 r, l = x0 :: x1 :: x2 :: x3 :: r := by
    rcases l with _ | ⟨x0, _ | ⟨x1, _ | ⟨x2, _ | ⟨x3, r⟩⟩⟩⟩
    · simp at hl; omega
    · simp at hl; omega
    · simp at hl; omega
    · simp at hl; omega
    · exact ⟨_, _, _, _, _, rfl⟩
  have HN := Lib.hid (num4_eq x0 x1 x2 x3 r)
  obtain ⟨ad, rfl, hab, hc⟩ := hr.2 (by omega)
  have k0 : ∀ q, (w.drewN q).cell? (ad.add 0) = some (.int .u8 (x0.toNat : Int)) := fun q => hc 0 _ rfl
  have k1 : ∀ q, (w.drewN q).cell? (ad.add 1) = some (.int .u8 (x1.toNat : Int)) := fun q => hc 1 _ rfl
  have k2 : ∀ q, (w.drewN q).cell? (ad.add 2) = some (.int .u8 (x2.toNat : Int)) := fun q => hc 2 _ rfl
  have k3 : ∀ q, (w.drewN q).cell? (ad.add 3) = some (.int .u8 (x3.toNat : Int)) := fun q => hc 3 _ rfl
  have n0 : 0 < n := by omega
  have n1 : 1 < n := by omega
  have n2 : 2 < n := by omega
  have n3 : 3 < n := by omega
  have i0 : (0 : Int) < (n : Int) := by omega
  have i1 : (1 : Int) < (n : Int) := by omega
  have i2 : (2 : Int) < (n : Int) := by omega
  have i3 : (3 : Int) < (n : Int) := by omega
  have b0 := x0.toNat_lt
  have b1 := x1.toNat_lt
  have b2 := x2.toNat_lt
  have b3 := x3.toNat_lt
  clear hr hc hl
  generalize x0.toNat = y0 at *
  generalize x1.toNat = y1 at *
  generalize x2.toNat = y2 at *
  generalize x3.toNat = y3 at *
  obtain ⟨N, hN⟩ : ∃ N, num4 (x0 :: x1 :: x2 :: x3 :: r) = N := ⟨_, rfl⟩
  have HNN := Lib.hid hN
  rw [hN]
  clear hN
  go_enter Try.func30, Try.ntmps30
  go_wp2_with fail
  refine nop_wp (ext_start (by kernel_rfl) calm_nop (fun hQ => ?_))
  have hB : Below w.heap.size w w.drew := (Below.refl _ _).drew
  replace k0 : w.drew.cell? _ = _ := k0 0
  replace k1 : w.drew.cell? _ = _ := k1 0
  replace k2 : w.drew.cell? _ = _ := k2 0
  replace k3 : w.drew.cell? _ = _ := k3 0
  replace hab : ad.block < w.drew.heap.size := hab
  generalize w.drew = x at *
  have X0 : ∀ W, Ext x W → W.cell? ad = some (.int .u8 (y0 : Int)) := fun W h => (Below.cell h hab).trans (by rw [add_zero5] at k0; exact k0)
  have X1 : ∀ W, Ext x W → W.cell? { block := ad.block, off := ad.off + 1 } = some (.int .u8 (y1 : Int)) := fun W h => (Below.cell h (by show ad.block < _; exact hab)).trans (by rw [add_lit ad 1 (by omega)] at k1; exact k1)
  have X2 : ∀ W, Ext x W → W.cell? { block := ad.block, off := ad.off + 2 } = some (.int .u8 (y2 : Int)) := fun W h => (Below.cell h (by show ad.block < _; exact hab)).trans (by rw [add_lit ad 2 (by omega)] at k2; exact k2)
  have X3 : ∀ W, Ext x W → W.cell? { block := ad.block, off := ad.off + 3 } = some (.int .u8 (y3 : Int)) := fun W h => (Below.cell h (by show ad.block < _; exact hab)).trans (by rw [add_lit ad 3 (by omega)] at k3; exact k3)
  refine ext_take (i := 0) (oi := ?oin0) (v := ?vn0) ?hin0 (by kernel_rfl) (by kernel_rfl) (by kernel_rfl) hQ ?hwn0 ?hyn0 ?restn0
  case hin0 => simp only [List.getElem?_toArray, List.getElem?_cons_zero]; rfl
  case hwn0 => rfl
  case hyn0 => intro W hW; go_simp; with_reducible rfl
  simp only [Act.put, List.setIfInBounds_toArray, List.set_cons_zero, List.set_cons_succ]
  refine ext_take (i := 1) (oi := ?oin1) (v := ?vn1) ?hin1 (by kernel_rfl) (by kernel_rfl) (by kernel_rfl) hQ ?hwn1 ?hyn1 ?restn1
  case hin1 => simp only [List.getElem?_toArray, List.getElem?_cons_zero, List.getElem?_cons_succ]; rfl
  case hwn1 => rfl
  case hyn1 => intro W hW; go_simp; with_reducible rfl
  simp only [Act.put, List.setIfInBounds_toArray, List.set_cons_zero, List.set_cons_succ]
  refine ext_take (i := 2) (oi := ?oin2) (v := ?vn2) ?hin2 (by kernel_rfl) (by kernel_rfl) (by kernel_rfl) hQ ?hwn2 ?hyn2 ?restn2
  case hin2 => simp only [List.getElem?_toArray, List.getElem?_cons_zero, List.getElem?_cons_succ]; rfl
  case hwn2 => rfl
  case hyn2 => intro W hW; go_simp; with_reducible rfl
  simp only [Act.put, List.setIfInBounds_toArray, List.set_cons_zero, List.set_cons_succ]
  refine ext_take (i := 3) (oi := ?oin3) (v := ?vn3) ?hin3 (by kernel_rfl) (by kernel_rfl) (by kernel_rfl) hQ ?hwn3 ?hyn3 ?restn3
  case hin3 => simp only [List.getElem?_toArray, List.getElem?_cons_zero, List.getElem?_cons_succ]; rfl
  case hwn3 => rfl
  case hyn3 => intro W hW; go_simp; with_reducible rfl
  simp only [Act.put, List.setIfInBounds_toArray, List.set_cons_zero, List.set_cons_succ]
  refine ext_take (i := 4) (oi := ?oin4) (v := ?vn4) ?hin4 (by kernel_rfl) (by kernel_rfl) (by kernel_rfl) hQ ?hwn4 ?hyn4 ?restn4
  case hin4 => simp only [List.getElem?_toArray, List.getElem?_cons_zero, List.getElem?_cons_succ]; rfl
  case hwn4 => rfl
  case hyn4 => intro W hW; go_simp; with_reducible rfl
  simp only [Act.put, List.setIfInBounds_toArray, List.set_cons_zero, List.set_cons_succ]
  refine ext_take (i := 5) (oi := ?oin5) (v := ?vn5) ?hin5 (by kernel_rfl) (by kernel_rfl) (by kernel_rfl) hQ ?hwn5 ?hyn5 ?restn5
  case hin5 => simp only [List.getElem?_toArray, List.getElem?_cons_zero, List.getElem?_cons_succ]; rfl
  case hwn5 => rfl
  case hyn5 => intro W hW; go_simp; with_reducible rfl
  simp only [Act.put, List.setIfInBounds_toArray, List.set_cons_zero, List.set_cons_succ]
  refine ext_take (i := 6) (oi := ?oin6) (v := ?vn6) ?hin6 (by kernel_rfl) (by kernel_rfl) (by kernel_rfl) hQ ?hwn6 ?hyn6 ?restn6
  case hin6 => simp only [List.getElem?_toArray, List.getElem?_cons_zero, List.getElem?_cons_succ]; rfl
  case hwn6 => rfl
  case hyn6 => intro W hW; go_simp; with_reducible rfl
  simp only [Act.put, List.setIfInBounds_toArray, List.set_cons_zero, List.set_cons_succ]
  refine ext_take (i := 7) (oi := ?oin7) (v := ?vn7) ?hin7 (by kernel_rfl) (by kernel_rfl) (by kernel_rfl) hQ ?hwn7 ?hyn7 ?restn7
  case hin7 => simp only [List.getElem?_toArray, List.getElem?_cons_zero, List.getElem?_cons_succ]; rfl
  case hwn7 => rfl
  case hyn7 => intro W hW; go_simp; with_reducible rfl
  simp only [Act.put, List.setIfInBounds_toArray, List.set_cons_zero, List.set_cons_succ]
  refine ext_take (i := 8) (oi := ?oin8) (v := ?vn8) ?hin8 (by kernel_rfl) (by kernel_rfl) (by kernel_rfl) hQ ?hwn8 ?hyn8 ?restn8
  case hin8 => simp only [List.getElem?_toArray, List.getElem?_cons_zero, List.getElem?_cons_succ]; rfl
  case hwn8 => rfl
  case hyn8 => intro W hW; go_simp; with_reducible rfl
  simp only [Act.put, List.setIfInBounds_toArray, List.set_cons_zero, List.set_cons_succ]
  refine ext_take (i := 9) (oi := ?oin9) (v := ?vn9) ?hin9 (by kernel_rfl) (by kernel_rfl) (by kernel_rfl) hQ ?hwn9 ?hyn9 ?restn9
  case hin9 => simp only [List.getElem?_toArray, List.getElem?_cons_zero, List.getElem?_cons_succ]; rfl
  case hwn9 => rfl
  case hyn9 => intro W hW; go_simp; with_reducible rfl
  simp only [Act.put, List.setIfInBounds_toArray, List.set_cons_zero, List.set_cons_succ]
  refine ext_take (i := 10) (oi := ?oin10) (v := ?vn10) ?hin10 (by kernel_rfl) (by kernel_rfl) (by kernel_rfl) hQ ?hwn10 ?hyn10 ?restn10
  case hin10 => simp only [List.getElem?_toArray, List.getElem?_cons_zero, List.getElem?_cons_succ]; rfl
  case hwn10 => rfl
  case hyn10 => intro W hW; go_simp; with_reducible rfl
  simp only [Act.put, List.setIfInBounds_toArray, List.set_cons_zero, List.set_cons_succ]
  refine ext_take (i := 11) (oi := ?oin11) (v := ?vn11) ?hin11 (by kernel_rfl) (by kernel_rfl) (by kernel_rfl) hQ ?hwn11 ?hyn11 ?restn11
  case hin11 => simp only [List.getElem?_toArray, List.getElem?_cons_zero, List.getElem?_cons_succ]; rfl
  case hwn11 => rfl
  case hyn11 => intro W hW; go_simp; with_reducible rfl
  simp only [Act.put, List.setIfInBounds_toArray, List.set_cons_zero, List.set_cons_succ]
  refine ext_take (i := 12) (oi := ?oin12) (v := ?vn12) ?hin12 (by kernel_rfl) (by kernel_rfl) (by kernel_rfl) hQ ?hwn12 ?hyn12 ?restn12
  case hin12 => simp only [List.getElem?_toArray, List.getElem?_cons_zero, List.getElem?_cons_succ]; rfl
  case hwn12 => rfl
  case hyn12 => intro W hW; go_simp; with_reducible rfl
  simp only [Act.put, List.setIfInBounds_toArray, List.set_cons_zero, List.set_cons_succ]
  refine ext_take (i := 13) (oi := ?oin13) (v := ?vn13) ?hin13 (by kernel_rfl) (by kernel_rfl) (by kernel_rfl) hQ ?hwn13 ?hyn13 ?restn13
  case hin13 => simp only [List.getElem?_toArray, List.getElem?_cons_zero, List.getElem?_cons_succ]; rfl
  case hwn13 => rfl
  case hyn13 => intro W hW; go_simp; with_reducible rfl
  simp only [Act.put, List.setIfInBounds_toArray, List.set_cons_zero, List.set_cons_succ]
  refine ext_take (i := 14) (oi := ?oin14) (v := ?vn14) ?hin14 (by kernel_rfl) (by kernel_rfl) (by kernel_rfl) hQ ?hwn14 ?hyn14 ?restn14
  case hin14 => simp only [List.getElem?_toArray, List.getElem?_cons_zero, List.getElem?_cons_succ]; rfl
  case hwn14 => rfl
  case hyn14 => intro W hW; go_simp; with_reducible rfl
  simp only [Act.put, List.setIfInBounds_toArray, List.set_cons_zero, List.set_cons_succ]
  refine ext_take (i := 15) (oi := ?oin15) (v := ?vn15) ?hin15 (by kernel_rfl) (by kernel_rfl) (by kernel_rfl) hQ ?hwn15 ?hyn15 ?restn15
  case hin15 => simp only [List.getElem?_toArray, List.getElem?_cons_zero, List.getElem?_cons_succ]; rfl
  case hwn15 => rfl
  case hyn15 => intro W hW; go_simp; with_reducible rfl
  simp only [Act.put, List.setIfInBounds_toArray, List.set_cons_zero, List.set_cons_succ]
  refine ext_take (i := 16) (oi := ?oin16) (v := ?vn16) ?hin16 (by kernel_rfl) (by kernel_rfl) (by kernel_rfl) hQ ?hwn16 ?hyn16 ?restn16
  case hin16 => simp only [List.getElem?_toArray, List.getElem?_cons_zero, List.getElem?_cons_succ]; rfl
  case hwn16 => rfl
  case hyn16 => intro W hW; go_simp; with_reducible rfl
  simp only [Act.put, List.setIfInBounds_toArray, List.set_cons_zero, List.set_cons_succ]
  refine ext_take (i := 17) (oi := ?oin17) (v := ?vn17) ?hin17 (by kernel_rfl) (by kernel_rfl) (by kernel_rfl) hQ ?hwn17 ?hyn17 ?restn17
  case hin17 => simp only [List.getElem?_toArray, List.getElem?_cons_zero, List.getElem?_cons_succ]; rfl
  case hwn17 => rfl
  case hyn17 => intro W hW; go_simp; with_reducible rfl
  simp only [Act.put, List.setIfInBounds_toArray, List.set_cons_zero, List.set_cons_succ]
  refine ext_take (i := 18) (oi := ?oin18) (v := ?vn18) ?hin18 (by kernel_rfl) (by kernel_rfl) (by kernel_rfl) hQ ?hwn18 ?hyn18 ?restn18
  case hin18 => simp only [List.getElem?_toArray, List.getElem?_cons_zero, List.getElem?_cons_succ]; rfl
  case hwn18 => rfl
  case hyn18 => intro W hW; go_simp; with_reducible rfl
  simp only [Act.put, List.setIfInBounds_toArray, List.set_cons_zero, List.set_cons_succ]
  refine ext_take (i := 19) (oi := ?oin19) (v := ?vn19) ?hin19 (by kernel_rfl) (by kernel_rfl) (by kernel_rfl) hQ ?hwn19 ?hyn19 ?restn19
  case hin19 => simp only [List.getElem?_toArray, List.getElem?_cons_zero, List.getElem?_cons_succ]; rfl
  case hwn19 => rfl
  case hyn19 => intro W hW; go_simp; with_reducible rfl
  simp only [Act.put, List.setIfInBounds_toArray, List.set_cons_zero, List.set_cons_succ]
  refine ext_take (i := 20) (oi := ?oin20) (v := ?vn20) ?hin20 (by kernel_rfl) (by kernel_rfl) (by kernel_rfl) hQ ?hwn20 ?hyn20 ?restn20
  case hin20 => simp only [List.getElem?_toArray, List.getElem?_cons_zero, List.getElem?_cons_succ]; rfl
  case hwn20 => rfl
  case hyn20 => intro W hW; go_simp; with_reducible rfl
  simp only [Act.put, List.setIfInBounds_toArray, List.set_cons_zero, List.set_cons_succ]
  refine ext_take (i := 21) (oi := ?oin21) (v := ?vn21) ?hin21 (by kernel_rfl) (by kernel_rfl) (by kernel_rfl) hQ ?hwn21 ?hyn21 ?restn21
  case hin21 => simp only [List.getElem?_toArray, List.getElem?_cons_zero, List.getElem?_cons_succ]; rfl
  case hwn21 => rfl
  case hyn21 => intro W hW; go_simp; with_reducible rfl
  simp only [Act.put, List.setIfInBounds_toArray, List.set_cons_zero, List.set_cons_succ]
  refine ext_take (i := 22) (oi := ?oin22) (v := ?vn22) ?hin22 (by kernel_rfl) (by kernel_rfl) (by kernel_rfl) hQ ?hwn22 ?hyn22 ?restn22
  case hin22 => simp only [List.getElem?_toArray, List.getElem?_cons_zero, List.getElem?_cons_succ]; rfl
  case hwn22 => rfl
  case hyn22 => intro W hW; go_simp; with_reducible rfl
  simp only [Act.put, List.setIfInBounds_toArray, List.set_cons_zero, List.set_cons_succ]
  refine wpAnyH_done (by kernel_rfl) ?_ _
  simp only [NoP]
  go_wp2_with fail
  go_ret
  refine ⟨?_, hB⟩
  rw [← HNN.out, HN.out]
  show Ending.returned (Value.int .u64 _) = _
  simp (disch := omega) only [u64_wrap_id, u64_or8, u64_or16, u64_or24]
  congr 2

set_option maxRecDepth 100000 in
set_option maxHeartbeats 1600000 in
theorem rnumber25_any (A : Option Addr) (n c : Nat) (l : List UInt8) (w : World) (hr : Rb w A n l) (hn : 4 ≤ n) (hc : n ≤ c ∧ c ≤ 9223372036854775807) :
    Calls Try.prog 33 #[.slice A n c] w fun e w' => e = .returned (.int .u64 (num4 l : Nat)) ∧ w = w' := by
  have HS : Rb w (sA A c 0) 4 (l.take 4) := by
    have := sub_reads (c := c) (i := 0) (v := 4) hr (by omega) hc.1
    simpa using this
  have SL : ∀ W, (Instr.slice 22 (.slice A n c) none (some (.int .i64 4)) none).run Try.prog W = .ok (.slice (sA A c 0) 4 c) W := fun W => sl5_h A n c 4 (b := 4) rfl (by omega) W
  go_enter Try.func33, Try.ntmps33
  go_wp2_with fail
  refine (unlittle_any _ 4 _ _ _ HS (by omega)).mono ?_
  rintro e w1 ⟨rfl, rfl⟩
  go_wp2_with fail
  go_ret
  exact ⟨rfl, rfl⟩

set_option maxRecDepth 100000 in
set_option maxHeartbeats 1600000 in
theorem long25_any (A : Option Addr) (n c : Nat) (w : World) (hn : n ≤ 9223372036854775807) :
    Calls Try.prog 9 #[.slice A n c] w fun e w' => e = .returned (.bool (decide (3000 < n ∧ n ≤ 200000 ∨ 200100 < n))) ∧ w = w' := by
  by_cases h1 : 3000 < n
  rotate_left
  · have hd : decide (3000 < n ∧ n ≤ 200000 ∨ 200100 < n) = false := by simp; omega
    have d0 : decide (3000 < (n : Int)) = false := by simp; omega
    have d1 : decide (200100 < (n : Int)) = false := by simp; omega
    rw [hd]
    go_enter Try.func9, Try.ntmps9
    go_wp2_with fail
    go_ret
    exact ⟨rfl, rfl⟩
  by_cases h2 : n ≤ 200000
  · have hd : decide (3000 < n ∧ n ≤ 200000 ∨ 200100 < n) = true := by simp; omega
    rw [hd]
    have d0 : decide ((n : Int) ≤ 200000) = true := by simp; omega
    go_enter Try.func9, Try.ntmps9
    go_wp2_with fail
    go_ret
    exact ⟨rfl, rfl⟩
  by_cases h3 : 200100 < n
  · have hd : decide (3000 < n ∧ n ≤ 200000 ∨ 200100 < n) = true := by simp; omega
    rw [hd]
    have d0 : decide ((n : Int) ≤ 200000) = false := by simp; omega
    have d1 : decide (200100 < (n : Int)) = true := by simp; omega
    go_enter Try.func9, Try.ntmps9
    go_wp2_with fail
    go_ret
    exact ⟨rfl, rfl⟩
  have hd : decide (3000 < n ∧ n ≤ 200000 ∨ 200100 < n) = false := by simp; omega
  rw [hd]
  have d0 : decide ((n : Int) ≤ 200000) = false := by simp; omega
  have d1 : decide (200100 < (n : Int)) = false := by simp; omega
  go_enter Try.func9, Try.ntmps9
  go_wp2_with fail
  go_ret
  exact ⟨rfl, rfl⟩

set_option maxRecDepth 100000 in
set_option maxHeartbeats 1600000 in
theorem equal25_any (A : Option Addr) (n c : Nat) (l : List UInt8) (A2 : Option Addr) (n2 c2 : Nat) (l2 : List UInt8) (w : World) (hr : Rb w A n l) (hs : Rb w A2 n2 l2) :
    Calls Try.prog 41 #[.slice A n c, .slice A2 n2 c2] w fun e w' => e = .returned (.bool (decide (l = l2))) ∧ Below w.heap.size w w' := by
  have K1 := fun q => cvS25 (w := w.drewN q) c (Reads.drewN hr q)
  have K2 := fun q => cvS25 (w := w.drewN q) c2 (Reads.drewN hs q)
  have KA := cvS25 c hr
  have KB := cvS25 c2 hs
  by_cases hlm : l = l2
  · subst hlm
    go_enter Try.func41, Try.ntmps41
    go_wp2_with fail
    go_ret
    exact ⟨by simp, Below.refl _ _⟩
  have hst := str_ne hlm
  have hs1 : (l == l2) = false := by rw [beq_eq_false_iff_ne]; exact hlm
  have hs2 : (l != l2) = true := by rw [bne_iff_ne]; exact hlm
  have hs3 : decide (l = l2) = false := decide_eq_false hlm
  rw [hs3]
  go_enter Try.func41, Try.ntmps41
  go_wp2_with fail
  go_ret
  exact ⟨rfl, Below.refl _ _⟩

set_option maxRecDepth 100000 in
set_option maxHeartbeats 1600000 in
theorem hasprefix25_any (A : Option Addr) (n c : Nat) (l : List UInt8) (A2 : Option Addr) (n2 c2 : Nat) (l2 : List UInt8) (w : World) (hr : Rb w A n l) (hs : Rb w A2 n2 l2) (hn : n2 ≤ n) (hc : n ≤ c) :
    Calls Try.prog 27 #[.slice A n c, .slice A2 n2 c2] w fun e w' => e = .returned (.bool (decide (l.take n2 = l2))) ∧ Below w.heap.size w w' := by
  have HS : Rb w (sA A c 0) n2 (l.take n2) := by
    have := sub_reads (c := c) (i := 0) (v := n2) hr (by omega) hc
    simpa using this
  have SL : ∀ W, (Instr.slice 22 (.slice A n c) none (some (.int .i64 (n2 : Int))) none).run Try.prog W = .ok (.slice (sA A c 0) n2 c) W := fun W => sl5_h A n c n2 (b := (n2 : Int)) rfl (by omega) W
  go_enter Try.func27, Try.ntmps27
  go_wp2_with fail
  refine (equal25_any _ n2 _ _ _ n2 _ _ _ HS hs).mono ?_
  rintro e w1 ⟨rfl, hB⟩
  go_wp2_with fail
  go_ret
  exact ⟨rfl, hB⟩

end Go.Proofs.Yteaaiacgebikpaa
