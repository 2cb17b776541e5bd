/- The contracts of Check, of both sides, and Great. Each states its conditions. -/
import Derived.Test.YteaaiacgebikpaaSec1
namespace Go.Proofs.Yteaaiacgebikpaa
open Go.RowKit Wire Crc
set_option linter.unusedVariables false

theorem reads_blk2 {w : World} {g : Nat} {t : TypeId} {cs : Array Value} (h : Blk w g t cs) (size n : Nat) (hn : cs.size = n * size) : Reads w w.heap.size size (some ⟨g, 0, none⟩) n cs.toList := by
  refine ⟨by simpa using hn, fun _ => ⟨_, rfl, h.lt, fun j u hu => ?_⟩⟩
  have hadd : (⟨g, 0, none⟩ : Addr).add j = ⟨g, j, none⟩ := by unfold Addr.add; split <;> simp_all
  rw [hadd, h.cell j]
  simpa using hu
theorem slIN : IsSl Try.prog 39 3 (.int .i64 0) 1 8 := ⟨Try.underlying39, by kernel_rfl, rfl, by omega, by omega⟩
def lens (L : List (Nat × List UInt8)) : List Nat := L.map fun p => p.2.length
theorem lens_take {L : List (Nat × List UInt8)} {j : Nat} {p : Nat × List UInt8} (h : L[j]? = some p) : lens (L.take (j + 1)) = lens (L.take j) ++ [p.2.length] := by
  rw [List.take_add_one, h]; simp [lens]
theorem ckS_no {L : List (Nat × List UInt8)} (h : ordB 0 L = false) : ckS L = 8 := by simp [ckS, h]
theorem ckS_yes {L : List (Nat × List UInt8)} (h : ordB 0 L = true) : ckS L = if lnB (lens L) then 0 else 4 := by rw [ckS, if_pos h]; rfl
theorem lnW_neg (l : List Nat) : decide (lnW l < 0) = !lnB l := by
  unfold lnW lnB
  cases lnR l with
  | none => rfl
  | some m => show decide ((m : Int) < 0) = false; rw [decide_eq_false_iff_not]; omega
/-- The length of data in slices. -/
theorem RdS.le {w : World} {A : Option Addr} {n : Nat} {L : List (Nat × List UInt8)} (h : RdS w A n L) : ∀ x ∈ lens L, x ≤ 9223372036854775807 := by
  intro x hx
  obtain ⟨p, hp, rfl⟩ := List.mem_map.1 hx
  obtain ⟨k, hk, hkp⟩ := List.mem_iff_getElem.1 hp
  obtain ⟨h1, vs, h2, h3, h4, h5⟩ := h
  obtain ⟨Ai, ci, g1, g2, g3, g4⟩ := h5 k p (by rw [List.getElem?_eq_getElem hk, hkp])
  omega

set_option maxRecDepth 100000 in
set_option maxHeartbeats 1600000 in
theorem check25_any (A : Option Addr) (n c : Nat) (L : List (Nat × List UInt8)) (w : World) (hr : RdS w A n L) (hn : n ≤ 1000000) :
    Calls Try.prog 23 #[.slice A n c] w fun e w' => e = .returned (.int .i64 (ckS L)) ∧ Below w.heap.size w w' := by
  have HL := Lib.hid hr.1
  have HLE := Lib.hid hr.le
  have HR := Lib.hid hr
  clear hr
  go_enter Try.func23, Try.ntmps23
  go_wp2_with fail
  refine (ordered25_any A n c L _ HR.out hn).mono ?_
  rintro e w1 ⟨rfl, hB0⟩
  cases ho : ordB 0 L
  · have HE := Lib.hid (ckS_no ho)
    clear ho
    go_wp2_with fail
    go_ret
    exact ⟨by rw [HE.out]; rfl, hB0⟩
  have HO := Lib.hid ho
  clear ho
  go_wp2_with fail
  go_loopw [3, 13] (fun s i wr => ∃ (j : Nat) (A1 : Option Addr) (c1 : Nat), j ≤ n ∧ i = .int .i64 (j : Int) ∧ s = .slice A1 j c1 ∧ wr.ownsRow w.heap.size 3 1 (.slice A1 j c1) j ((lens (L.take j)).map vI) ∧ Below w.heap.size w wr) (fun _ i _ => n - (intOf i).toNat)
  case atStart => exact ⟨0, none, 0, by omega, rfl, rfl, World.ownsRow_nil _ _ _ _, hB0⟩
  case round =>
    clear hB0
    obtain ⟨j, A1, c1, hj, rfl, rfl, o1, hB⟩ := hrel
    by_cases hlt : j < n
    · obtain ⟨ad, b, l, Ai, ci, hA, hab, hz, c0, c1_, hci, hrl, hb256⟩ := (HR.out.mv hB).at_ hlt
      subst hA
      have HZ := Lib.hid (lens_take hz)
      clear hz hrl
      have hB1 := hB.alloc hB.size (.cells #[.int .u8 (b : Int), .slice Ai l.length ci] 32)
      have h4 := Blk.new wr 32 #[.int .u8 (b : Int), .slice Ai l.length ci]
      have z0 : (wr.alloc (.cells #[.int .u8 (b : Int), .slice Ai l.length ci] 32)).cell? ⟨wr.heap.size, 0, none⟩ = some (.int .u8 (b : Int)) := (h4.cell 0).trans rfl
      have z1 : (wr.alloc (.cells #[.int .u8 (b : Int), .slice Ai l.length ci] 32)).cell? ⟨wr.heap.size, 1, none⟩ = some (.slice Ai l.length ci) := (h4.cell 1).trans rfl
      have o2 := own_alloc_ o1 (.cells #[.int .u8 (b : Int), .slice Ai l.length ci] 32)
      have o3 := own_alloc_ o2 (.cells #[.int .i64 (l.length : Int)] 3)
      have hB2 := hB1.alloc hB1.size (.cells #[.int .i64 (l.length : Int)] 3)
      go_wp2_with (at_builtin; refine wpList_app rfl (.tmp 17) (.tmp 21) _ rfl slIN w.heap.size (.slice A1 j c1) j _ (by rfl) o3 _ _ 1 1 [.int .i64 (l.length : Int)] rfl (reads_blk2 (t := 3) (cs := #[.int .i64 (l.length : Int)]) (Blk.newAt (by simp) _ _) 1 1 rfl) (by simp [Value.oneCell']) (by omega) hB2.size ?_; intro A5 c5 w5 o5 hg5 b5 hc5)
      have hB5 := hB2.trans b5
      go_roundw
      case rel => exact ⟨j + 1, A5, c5, by omega, by go_num, rfl, by rw [HZ.out, List.map_append]; exact o5, hB5⟩
      case measure => simp [intOf]; omega
    · obtain rfl : j = n := by omega
      have hZ : RdZ wr A1 j (lens L) := ⟨by have h := own_reads o1; rwa [List.take_of_length_le (by rw [HL.out]; omega)] at h, HLE.out⟩
      have HZ := Lib.hid hZ
      clear hZ
      go_wp2_with fail
      refine (length25_any A1 j c1 (lens L) _ HZ.out (by omega)).mono ?_
      rintro e w8 ⟨rfl, rfl⟩
      cases hb : lnB (lens L)
      · have HE := Lib.hid (show ckS L = 4 from by rw [ckS_yes HO.out, hb]; rfl)
        clear hb
        go_wp2_with fail
        go_ret
        exact ⟨by rw [HE.out]; rfl, hB⟩
      · have HE := Lib.hid (show ckS L = 0 from by rw [ckS_yes HO.out, hb]; rfl)
        clear hb
        go_wp2_with fail
        go_ret
        exact ⟨by rw [HE.out]; rfl, hB⟩

set_option maxRecDepth 100000 in
set_option maxHeartbeats 1600000 in
theorem sizes25_any (A : Option Addr) (n c : Nat) (L : List (Nat × List UInt8)) (w : World) (hr : RdS w A n L) (hn : n ≤ 1000000) :
    Calls Try.prog 24 #[.slice A n c] w fun e w' => ∃ A' c', e = .returned (.slice A' n c') ∧ RdZ w' A' n (lens L) ∧ Below w.heap.size w w' := by
  have HL := Lib.hid hr.1
  have HLE := Lib.hid hr.le
  have HR := Lib.hid hr
  clear hr
  have hB0 := Below.refl w.heap.size w
  go_enter Try.func24, Try.ntmps24
  go_wp2_with fail
  go_loopw [3, 4] (fun s i wr => ∃ (j : Nat) (A1 : Option Addr) (c1 : Nat), j ≤ n ∧ i = .int .i64 (j : Int) ∧ s = .slice A1 j c1 ∧ wr.ownsRow w.heap.size 3 1 (.slice A1 j c1) j ((lens (L.take j)).map vI) ∧ Below w.heap.size w wr) (fun _ i _ => n - (intOf i).toNat)
  case atStart => exact ⟨0, none, 0, by omega, rfl, rfl, World.ownsRow_nil _ _ _ _, hB0⟩
  case round =>
    clear hB0
    obtain ⟨j, A1, c1, hj, rfl, rfl, o1, hB⟩ := hrel
    by_cases hlt : j < n
    · obtain ⟨ad, b, l, Ai, ci, hA, hab, hz, c0, c1_, hci, hrl, hb256⟩ := (HR.out.mv hB).at_ hlt
      subst hA
      have HZ := Lib.hid (lens_take hz)
      clear hz hrl
      have hB1 := hB
      have o2 := o1
      have o3 := own_alloc_ o2 (.cells #[.int .i64 (l.length : Int)] 3)
      have hB2 := hB1.alloc hB1.size (.cells #[.int .i64 (l.length : Int)] 3)
      go_wp2_with (at_builtin; refine wpList_app rfl (.tmp 11) (.tmp 18) _ rfl slIN w.heap.size (.slice A1 j c1) j _ (by rfl) o3 _ _ 1 1 [.int .i64 (l.length : Int)] rfl (reads_blk2 (t := 3) (cs := #[.int .i64 (l.length : Int)]) (Blk.newAt (by simp) _ _) 1 1 rfl) (by simp [Value.oneCell']) (by omega) hB2.size ?_; intro A5 c5 w5 o5 hg5 b5 hc5)
      have hB5 := hB2.trans b5
      go_roundw
      case rel => exact ⟨j + 1, A5, c5, by omega, by go_num, rfl, by rw [HZ.out, List.map_append]; exact o5, hB5⟩
      case measure => simp [intOf]; omega
    · obtain rfl : j = n := by omega
      have hZ : RdZ wr A1 j (lens L) := ⟨by have h := own_reads o1; rwa [List.take_of_length_le (by rw [HL.out]; omega)] at h, HLE.out⟩
      have HZ := Lib.hid hZ
      clear hZ
      go_wp2_with fail
      go_ret
      exact ⟨A1, c1, rfl, HZ.out, hB⟩

/-- The last kind ahead of an index. -/
def lastK (L : List (Nat × List UInt8)) : Nat → Nat
  | 0 => 0
  | j + 1 => ((L[j]?).map (·.1)).getD 0

theorem below_drewN5 {B : Nat} {u w : World} (h : Below B u w) (n : Nat) : Below B u (w.drewN n) := ⟨h.os, h.tape, h.output, h.size, h.block⟩

set_option maxRecDepth 100000 in
set_option maxHeartbeats 3200000 in
theorem rordered25_any (A : Option Addr) (n c : Nat) (L : List (Nat × List UInt8)) (w : World) (hr : RdS w A n L) (hn : n ≤ 1000000) :
    Calls Try.prog 35 #[.slice A n c] w fun e w' => e = .returned (.bool (ordB 0 L)) ∧ Below w.heap.size w w' := by
  have HL := Lib.hid hr.1
  go_enter Try.func35, Try.ntmps35
  go_wp2_with fail
  go_loopw [3] (fun i wr => ∃ j : Nat, j ≤ n ∧ i = .int .i64 (j : Int) ∧ (ordB 0 L = ordB (lastK L j) (L.drop j) ∧ lastK L j ≤ 7 ∧ j ≤ lastK L j) ∧ Below w.heap.size w wr) (fun i _ => n - (intOf i).toNat)
  case atStart => exact ⟨0, by omega, rfl, ⟨rfl, Nat.zero_le _, Nat.le_refl _⟩, Below.refl _ _⟩
  case round =>
    obtain ⟨j, hj, rfl, ⟨hl, hk7, hjk⟩, hB⟩ := hrel
    by_cases hlt : j < n
    · obtain ⟨ad, b, l, Ai, ci, hA, hab, hz, c0, c1, hci, hrl, hb256⟩ := (hr.mv hB).at_ hlt
      subst hA
      rw [drop_get hz] at hl
      have hnx : lastK L (j + 1) = b := by simp [lastK, hz]
      have HNX := Lib.hid hnx
      have HH := Lib.hid hl
      obtain ⟨m, hm⟩ : ∃ m, lastK L j = m := ⟨_, rfl⟩
      rw [hm] at HH hk7 hjk
      have hpv : 0 < j → wr.cell? (ad.add ((j - 1) * 2)) = some (.int .u8 (m : Int)) := fun h0 => by
        obtain ⟨ad', b', l', Ai', ci', hA', _, hz', c0', _⟩ := (hr.mv hB).at_ (k := j - 1) (by omega)
        injection hA' with hA'
        subst hA'
        have : b' = m := by
          rw [← hm]
          obtain ⟨j', rfl⟩ : ∃ j', j = j' + 1 := ⟨j - 1, by omega⟩
          simp only [Nat.add_sub_cancel] at hz'
          simp [lastK, hz']
        rw [← this]; exact c0'
      have hm00 : j = 0 → m = 0 := fun e => by rw [← hm, e]; rfl
      have HM0 := Lib.hid hm00
      clear hz hl hrl hnx hm hm00
      by_cases hb1 : b < 1
      · have HE := Lib.hid (show ordB 0 L = false from by rw [HH.out, ordB, decide_eq_false (by simp only; omega)]; rfl)
        have hb1' : decide ((b : Int) < 1) = true := by simp; omega
        go_wp2_with fail
        refine nop_wp (ext_start (by kernel_rfl) calm_nop (fun hQ => ?_))
        replace hB := hB.drew
        replace c0 : wr.drew.cell? _ = _ := c0
        replace hab : ad.block < wr.drew.heap.size := hab
        generalize wr.drew = x at *
        have X0 : ∀ W, Ext x W → W.cell? (ad.add (j * 2)) = some (.int .u8 (b : Int)) := fun W h => (Below.cell h (by rw [block_of_add]; exact hab)).trans c0
        refine ext_take (i := 0) (oi := ?oia0) (v := ?va0) ?hia0 (by kernel_rfl) (by kernel_rfl) (by kernel_rfl) hQ ?hwa0 ?hya0 ?resta0
        case hia0 => simp only [List.getElem?_toArray, List.getElem?_cons_zero]; rfl
        case hwa0 => rfl
        case hya0 => intro W hW; go_simp; with_reducible rfl
        simp only [Act.put, List.setIfInBounds_toArray, List.set_cons_zero, List.set_cons_succ]
        refine ext_take (i := 1) (oi := ?oia1) (v := ?va1) ?hia1 (by kernel_rfl) (by kernel_rfl) (by kernel_rfl) hQ ?hwa1 ?hya1 ?resta1
        case hia1 => simp only [List.getElem?_toArray, List.getElem?_cons_zero, List.getElem?_cons_succ]; rfl
        case hwa1 => rfl
        case hya1 => intro W hW; go_simp; with_reducible rfl
        simp only [Act.put, List.setIfInBounds_toArray, List.set_cons_zero, List.set_cons_succ]
        refine ext_take (i := 2) (oi := ?oia2) (v := ?va2) ?hia2 (by kernel_rfl) (by kernel_rfl) (by kernel_rfl) hQ ?hwa2 ?hya2 ?resta2
        case hia2 => simp only [List.getElem?_toArray, List.getElem?_cons_zero, List.getElem?_cons_succ]; rfl
        case hwa2 => rfl
        case hya2 => intro W hW; go_simp; with_reducible rfl
        simp only [Act.put, List.setIfInBounds_toArray, List.set_cons_zero, List.set_cons_succ]
        refine ext_take (i := 3) (oi := ?oia3) (v := ?va3) ?hia3 (by kernel_rfl) (by kernel_rfl) (by kernel_rfl) hQ ?hwa3 ?hya3 ?resta3
        case hia3 => simp only [List.getElem?_toArray, List.getElem?_cons_zero, List.getElem?_cons_succ]; rfl
        case hwa3 => rfl
        case hya3 => intro W hW; go_simp; with_reducible rfl
        simp only [Act.put, List.setIfInBounds_toArray, List.set_cons_zero, List.set_cons_succ]
        refine ext_take (i := 4) (oi := ?oia4) (v := ?va4) ?hia4 (by kernel_rfl) (by kernel_rfl) (by kernel_rfl) hQ ?hwa4 ?hya4 ?resta4
        case hia4 => simp only [List.getElem?_toArray, List.getElem?_cons_zero, List.getElem?_cons_succ]; rfl
        case hwa4 => rfl
        case hya4 => intro W hW; go_simp; with_reducible rfl
        simp only [Act.put, List.setIfInBounds_toArray, List.set_cons_zero, List.set_cons_succ]
        refine ext_take (i := 5) (oi := ?oia5) (v := ?va5) ?hia5 (by kernel_rfl) (by kernel_rfl) (by kernel_rfl) hQ ?hwa5 ?hya5 ?resta5
        case hia5 => simp only [List.getElem?_toArray, List.getElem?_cons_zero, List.getElem?_cons_succ]; rfl
        case hwa5 => rfl
        case hya5 => intro W hW; go_simp; with_reducible rfl
        simp only [Act.put, List.setIfInBounds_toArray, List.set_cons_zero, List.set_cons_succ]
        refine ext_take (i := 6) (oi := ?oia6) (v := ?va6) ?hia6 (by kernel_rfl) (by kernel_rfl) (by kernel_rfl) hQ ?hwa6 ?hya6 ?resta6
        case hia6 => simp only [List.getElem?_toArray, List.getElem?_cons_zero, List.getElem?_cons_succ]; rfl
        case hwa6 => rfl
        case hya6 => intro W hW; go_simp; with_reducible rfl
        simp only [Act.put, List.setIfInBounds_toArray, List.set_cons_zero, List.set_cons_succ]
        refine ext_skip (i := 7) (oi := ?oia7) ?hia7 (by kernel_rfl) (by kernel_rfl) (by kernel_rfl) hQ ?hwa7 ?resta7
        case hia7 => simp only [List.getElem?_toArray, List.getElem?_cons_zero, List.getElem?_cons_succ]; rfl
        case hwa7 => rfl
        simp only [Act.put, List.setIfInBounds_toArray, List.set_cons_zero, List.set_cons_succ]
        refine ext_skip (i := 8) (oi := ?oia8) ?hia8 (by kernel_rfl) (by kernel_rfl) (by kernel_rfl) hQ ?hwa8 ?resta8
        case hia8 => simp only [List.getElem?_toArray, List.getElem?_cons_zero, List.getElem?_cons_succ]; rfl
        case hwa8 => rfl
        simp only [Act.put, List.setIfInBounds_toArray, List.set_cons_zero, List.set_cons_succ]
        refine ext_skip (i := 9) (oi := ?oia9) ?hia9 (by kernel_rfl) (by kernel_rfl) (by kernel_rfl) hQ ?hwa9 ?resta9
        case hia9 => simp only [List.getElem?_toArray, List.getElem?_cons_zero, List.getElem?_cons_succ]; rfl
        case hwa9 => rfl
        simp only [Act.put, List.setIfInBounds_toArray, List.set_cons_zero, List.set_cons_succ]
        refine ext_skip (i := 10) (oi := ?oia10) ?hia10 (by kernel_rfl) (by kernel_rfl) (by kernel_rfl) hQ ?hwa10 ?resta10
        case hia10 => simp only [List.getElem?_toArray, List.getElem?_cons_zero, List.getElem?_cons_succ]; rfl
        case hwa10 => rfl
        simp only [Act.put, List.setIfInBounds_toArray, List.set_cons_zero, List.set_cons_succ]
        refine ext_skip (i := 11) (oi := ?oia11) ?hia11 (by kernel_rfl) (by kernel_rfl) (by kernel_rfl) hQ ?hwa11 ?resta11
        case hia11 => simp only [List.getElem?_toArray, List.getElem?_cons_zero, List.getElem?_cons_succ]; rfl
        case hwa11 => rfl
        simp only [Act.put, List.setIfInBounds_toArray, List.set_cons_zero, List.set_cons_succ]
        refine ext_skip (i := 12) (oi := ?oia12) ?hia12 (by kernel_rfl) (by kernel_rfl) (by kernel_rfl) hQ ?hwa12 ?resta12
        case hia12 => simp only [List.getElem?_toArray, List.getElem?_cons_zero, List.getElem?_cons_succ]; rfl
        case hwa12 => rfl
        simp only [Act.put, List.setIfInBounds_toArray, List.set_cons_zero, List.set_cons_succ]
        refine ext_take (i := 13) (oi := ?oia13) (v := ?va13) ?hia13 (by kernel_rfl) (by kernel_rfl) (by kernel_rfl) hQ ?hwa13 ?hya13 ?resta13
        case hia13 => simp only [List.getElem?_toArray, List.getElem?_cons_zero, List.getElem?_cons_succ]; rfl
        case hwa13 => rfl
        case hya13 => intro W hW; go_simp; with_reducible rfl
        simp only [Act.put, List.setIfInBounds_toArray, List.set_cons_zero, List.set_cons_succ]
        refine ext_take (i := 14) (oi := ?oia14) (v := ?va14) ?hia14 (by kernel_rfl) (by kernel_rfl) (by kernel_rfl) hQ ?hwa14 ?hya14 ?resta14
        case hia14 => simp only [List.getElem?_toArray, List.getElem?_cons_zero, List.getElem?_cons_succ]; rfl
        case hwa14 => rfl
        case hya14 => intro W hW; go_simp; with_reducible rfl
        simp only [Act.put, List.setIfInBounds_toArray, List.set_cons_zero, List.set_cons_succ]
        refine ext_skip (i := 15) (oi := ?oia15) ?hia15 (by kernel_rfl) (by kernel_rfl) (by kernel_rfl) hQ ?hwa15 ?resta15
        case hia15 => simp only [List.getElem?_toArray, List.getElem?_cons_zero, List.getElem?_cons_succ]; rfl
        case hwa15 => rfl
        simp only [Act.put, List.setIfInBounds_toArray, List.set_cons_zero, List.set_cons_succ]
        refine ext_skip (i := 16) (oi := ?oia16) ?hia16 (by kernel_rfl) (by kernel_rfl) (by kernel_rfl) hQ ?hwa16 ?resta16
        case hia16 => simp only [List.getElem?_toArray, List.getElem?_cons_zero, List.getElem?_cons_succ]; rfl
        case hwa16 => rfl
        simp only [Act.put, List.setIfInBounds_toArray, List.set_cons_zero, List.set_cons_succ]
        refine ext_skip (i := 17) (oi := ?oia17) ?hia17 (by kernel_rfl) (by kernel_rfl) (by kernel_rfl) hQ ?hwa17 ?resta17
        case hia17 => simp only [List.getElem?_toArray, List.getElem?_cons_zero, List.getElem?_cons_succ]; rfl
        case hwa17 => rfl
        simp only [Act.put, List.setIfInBounds_toArray, List.set_cons_zero, List.set_cons_succ]
        refine ext_skip (i := 18) (oi := ?oia18) ?hia18 (by kernel_rfl) (by kernel_rfl) (by kernel_rfl) hQ ?hwa18 ?resta18
        case hia18 => simp only [List.getElem?_toArray, List.getElem?_cons_zero, List.getElem?_cons_succ]; rfl
        case hwa18 => rfl
        simp only [Act.put, List.setIfInBounds_toArray, List.set_cons_zero, List.set_cons_succ]
        refine ext_skip (i := 19) (oi := ?oia19) ?hia19 (by kernel_rfl) (by kernel_rfl) (by kernel_rfl) hQ ?hwa19 ?resta19
        case hia19 => simp only [List.getElem?_toArray, List.getElem?_cons_zero, List.getElem?_cons_succ]; rfl
        case hwa19 => rfl
        simp only [Act.put, List.setIfInBounds_toArray, List.set_cons_zero, List.set_cons_succ]
        refine ext_skip (i := 20) (oi := ?oia20) ?hia20 (by kernel_rfl) (by kernel_rfl) (by kernel_rfl) hQ ?hwa20 ?resta20
        case hia20 => simp only [List.getElem?_toArray, List.getElem?_cons_zero, List.getElem?_cons_succ]; rfl
        case hwa20 => rfl
        simp only [Act.put, List.setIfInBounds_toArray, List.set_cons_zero, List.set_cons_succ]
        refine ext_skip (i := 21) (oi := ?oia21) ?hia21 (by kernel_rfl) (by kernel_rfl) (by kernel_rfl) hQ ?hwa21 ?resta21
        case hia21 => simp only [List.getElem?_toArray, List.getElem?_cons_zero, List.getElem?_cons_succ]; rfl
        case hwa21 => rfl
        simp only [Act.put, List.setIfInBounds_toArray, List.set_cons_zero, List.set_cons_succ]
        refine ext_skip (i := 22) (oi := ?oia22) ?hia22 (by kernel_rfl) (by kernel_rfl) (by kernel_rfl) hQ ?hwa22 ?resta22
        case hia22 => simp only [List.getElem?_toArray, List.getElem?_cons_zero, List.getElem?_cons_succ]; rfl
        case hwa22 => rfl
        simp only [Act.put, List.setIfInBounds_toArray, List.set_cons_zero, List.set_cons_succ]
        refine ext_skip (i := 23) (oi := ?oia23) ?hia23 (by kernel_rfl) (by kernel_rfl) (by kernel_rfl) hQ ?hwa23 ?resta23
        case hia23 => simp only [List.getElem?_toArray, List.getElem?_cons_zero, List.getElem?_cons_succ]; rfl
        case hwa23 => rfl
        simp only [Act.put, List.setIfInBounds_toArray, List.set_cons_zero, List.set_cons_succ]
        refine ext_skip (i := 24) (oi := ?oia24) ?hia24 (by kernel_rfl) (by kernel_rfl) (by kernel_rfl) hQ ?hwa24 ?resta24
        case hia24 => simp only [List.getElem?_toArray, List.getElem?_cons_zero, List.getElem?_cons_succ]; rfl
        case hwa24 => rfl
        simp only [Act.put, List.setIfInBounds_toArray, List.set_cons_zero, List.set_cons_succ]
        refine ext_skip (i := 25) (oi := ?oia25) ?hia25 (by kernel_rfl) (by kernel_rfl) (by kernel_rfl) hQ ?hwa25 ?resta25
        case hia25 => simp only [List.getElem?_toArray, List.getElem?_cons_zero, List.getElem?_cons_succ]; rfl
        case hwa25 => rfl
        simp only [Act.put, List.setIfInBounds_toArray, List.set_cons_zero, List.set_cons_succ]
        refine ext_skip (i := 26) (oi := ?oia26) ?hia26 (by kernel_rfl) (by kernel_rfl) (by kernel_rfl) hQ ?hwa26 ?resta26
        case hia26 => simp only [List.getElem?_toArray, List.getElem?_cons_zero, List.getElem?_cons_succ]; rfl
        case hwa26 => rfl
        simp only [Act.put, List.setIfInBounds_toArray, List.set_cons_zero, List.set_cons_succ]
        refine ext_skip (i := 27) (oi := ?oia27) ?hia27 (by kernel_rfl) (by kernel_rfl) (by kernel_rfl) hQ ?hwa27 ?resta27
        case hia27 => simp only [List.getElem?_toArray, List.getElem?_cons_zero, List.getElem?_cons_succ]; rfl
        case hwa27 => rfl
        simp only [Act.put, List.setIfInBounds_toArray, List.set_cons_zero, List.set_cons_succ]
        refine ext_skip (i := 28) (oi := ?oia28) ?hia28 (by kernel_rfl) (by kernel_rfl) (by kernel_rfl) hQ ?hwa28 ?resta28
        case hia28 => simp only [List.getElem?_toArray, List.getElem?_cons_zero, List.getElem?_cons_succ]; rfl
        case hwa28 => rfl
        simp only [Act.put, List.setIfInBounds_toArray, List.set_cons_zero, List.set_cons_succ]
        refine ext_skip (i := 29) (oi := ?oia29) ?hia29 (by kernel_rfl) (by kernel_rfl) (by kernel_rfl) hQ ?hwa29 ?resta29
        case hia29 => simp only [List.getElem?_toArray, List.getElem?_cons_zero, List.getElem?_cons_succ]; rfl
        case hwa29 => rfl
        simp only [Act.put, List.setIfInBounds_toArray, List.set_cons_zero, List.set_cons_succ]
        refine ext_skip (i := 30) (oi := ?oia30) ?hia30 (by kernel_rfl) (by kernel_rfl) (by kernel_rfl) hQ ?hwa30 ?resta30
        case hia30 => simp only [List.getElem?_toArray, List.getElem?_cons_zero, List.getElem?_cons_succ]; rfl
        case hwa30 => rfl
        simp only [Act.put, List.setIfInBounds_toArray, List.set_cons_zero, List.set_cons_succ]
        refine ext_take (i := 31) (oi := ?oia31) (v := ?va31) ?hia31 (by kernel_rfl) (by kernel_rfl) (by kernel_rfl) hQ ?hwa31 ?hya31 ?resta31
        case hia31 => simp only [List.getElem?_toArray, List.getElem?_cons_zero, List.getElem?_cons_succ]; rfl
        case hwa31 => rfl
        case hya31 => intro W hW; go_simp; with_reducible rfl
        simp only [Act.put, List.setIfInBounds_toArray, List.set_cons_zero, List.set_cons_succ]
        refine wpAnyH_done (by kernel_rfl) ?_ _
        simp only [NoP]
        go_wp2_with fail
        go_ret
        exact ⟨by rw [HE.out]; rfl, hB⟩
      have hb1' : decide ((b : Int) < 1) = false := by simp; omega
      by_cases hb7 : 7 < b
      · have HE := Lib.hid (show ordB 0 L = false from by rw [HH.out, ordB, decide_eq_false (by simp only; omega)]; rfl)
        have hb7' : decide ((7 : Int) < (b : Int)) = true := by simp; omega
        go_wp2_with fail
        refine nop_wp (ext_start (by kernel_rfl) calm_nop (fun hQ => ?_))
        replace hB := hB.drew
        replace c0 : wr.drew.cell? _ = _ := c0
        replace hab : ad.block < wr.drew.heap.size := hab
        generalize wr.drew = x at *
        have X0 : ∀ W, Ext x W → W.cell? (ad.add (j * 2)) = some (.int .u8 (b : Int)) := fun W h => (Below.cell h (by rw [block_of_add]; exact hab)).trans c0
        refine ext_take (i := 0) (oi := ?oib0) (v := ?vb0) ?hib0 (by kernel_rfl) (by kernel_rfl) (by kernel_rfl) hQ ?hwb0 ?hyb0 ?restb0
        case hib0 => simp only [List.getElem?_toArray, List.getElem?_cons_zero]; rfl
        case hwb0 => rfl
        case hyb0 => intro W hW; go_simp; with_reducible rfl
        simp only [Act.put, List.setIfInBounds_toArray, List.set_cons_zero, List.set_cons_succ]
        refine ext_take (i := 1) (oi := ?oib1) (v := ?vb1) ?hib1 (by kernel_rfl) (by kernel_rfl) (by kernel_rfl) hQ ?hwb1 ?hyb1 ?restb1
        case hib1 => simp only [List.getElem?_toArray, List.getElem?_cons_zero, List.getElem?_cons_succ]; rfl
        case hwb1 => rfl
        case hyb1 => intro W hW; go_simp; with_reducible rfl
        simp only [Act.put, List.setIfInBounds_toArray, List.set_cons_zero, List.set_cons_succ]
        refine ext_take (i := 2) (oi := ?oib2) (v := ?vb2) ?hib2 (by kernel_rfl) (by kernel_rfl) (by kernel_rfl) hQ ?hwb2 ?hyb2 ?restb2
        case hib2 => simp only [List.getElem?_toArray, List.getElem?_cons_zero, List.getElem?_cons_succ]; rfl
        case hwb2 => rfl
        case hyb2 => intro W hW; go_simp; with_reducible rfl
        simp only [Act.put, List.setIfInBounds_toArray, List.set_cons_zero, List.set_cons_succ]
        refine ext_take (i := 3) (oi := ?oib3) (v := ?vb3) ?hib3 (by kernel_rfl) (by kernel_rfl) (by kernel_rfl) hQ ?hwb3 ?hyb3 ?restb3
        case hib3 => simp only [List.getElem?_toArray, List.getElem?_cons_zero, List.getElem?_cons_succ]; rfl
        case hwb3 => rfl
        case hyb3 => intro W hW; go_simp; with_reducible rfl
        simp only [Act.put, List.setIfInBounds_toArray, List.set_cons_zero, List.set_cons_succ]
        refine ext_take (i := 4) (oi := ?oib4) (v := ?vb4) ?hib4 (by kernel_rfl) (by kernel_rfl) (by kernel_rfl) hQ ?hwb4 ?hyb4 ?restb4
        case hib4 => simp only [List.getElem?_toArray, List.getElem?_cons_zero, List.getElem?_cons_succ]; rfl
        case hwb4 => rfl
        case hyb4 => intro W hW; go_simp; with_reducible rfl
        simp only [Act.put, List.setIfInBounds_toArray, List.set_cons_zero, List.set_cons_succ]
        refine ext_take (i := 5) (oi := ?oib5) (v := ?vb5) ?hib5 (by kernel_rfl) (by kernel_rfl) (by kernel_rfl) hQ ?hwb5 ?hyb5 ?restb5
        case hib5 => simp only [List.getElem?_toArray, List.getElem?_cons_zero, List.getElem?_cons_succ]; rfl
        case hwb5 => rfl
        case hyb5 => intro W hW; go_simp; with_reducible rfl
        simp only [Act.put, List.setIfInBounds_toArray, List.set_cons_zero, List.set_cons_succ]
        refine ext_take (i := 6) (oi := ?oib6) (v := ?vb6) ?hib6 (by kernel_rfl) (by kernel_rfl) (by kernel_rfl) hQ ?hwb6 ?hyb6 ?restb6
        case hib6 => simp only [List.getElem?_toArray, List.getElem?_cons_zero, List.getElem?_cons_succ]; rfl
        case hwb6 => rfl
        case hyb6 => intro W hW; go_simp; with_reducible rfl
        simp only [Act.put, List.setIfInBounds_toArray, List.set_cons_zero, List.set_cons_succ]
        refine ext_take (i := 7) (oi := ?oib7) (v := ?vb7) ?hib7 (by kernel_rfl) (by kernel_rfl) (by kernel_rfl) hQ ?hwb7 ?hyb7 ?restb7
        case hib7 => simp only [List.getElem?_toArray, List.getElem?_cons_zero, List.getElem?_cons_succ]; rfl
        case hwb7 => rfl
        case hyb7 => intro W hW; go_simp; with_reducible rfl
        simp only [Act.put, List.setIfInBounds_toArray, List.set_cons_zero, List.set_cons_succ]
        refine ext_take (i := 8) (oi := ?oib8) (v := ?vb8) ?hib8 (by kernel_rfl) (by kernel_rfl) (by kernel_rfl) hQ ?hwb8 ?hyb8 ?restb8
        case hib8 => simp only [List.getElem?_toArray, List.getElem?_cons_zero, List.getElem?_cons_succ]; rfl
        case hwb8 => rfl
        case hyb8 => intro W hW; go_simp; with_reducible rfl
        simp only [Act.put, List.setIfInBounds_toArray, List.set_cons_zero, List.set_cons_succ]
        refine ext_take (i := 9) (oi := ?oib9) (v := ?vb9) ?hib9 (by kernel_rfl) (by kernel_rfl) (by kernel_rfl) hQ ?hwb9 ?hyb9 ?restb9
        case hib9 => simp only [List.getElem?_toArray, List.getElem?_cons_zero, List.getElem?_cons_succ]; rfl
        case hwb9 => rfl
        case hyb9 => intro W hW; go_simp; with_reducible rfl
        simp only [Act.put, List.setIfInBounds_toArray, List.set_cons_zero, List.set_cons_succ]
        refine ext_take (i := 10) (oi := ?oib10) (v := ?vb10) ?hib10 (by kernel_rfl) (by kernel_rfl) (by kernel_rfl) hQ ?hwb10 ?hyb10 ?restb10
        case hib10 => simp only [List.getElem?_toArray, List.getElem?_cons_zero, List.getElem?_cons_succ]; rfl
        case hwb10 => rfl
        case hyb10 => intro W hW; go_simp; with_reducible rfl
        simp only [Act.put, List.setIfInBounds_toArray, List.set_cons_zero, List.set_cons_succ]
        refine ext_take (i := 11) (oi := ?oib11) (v := ?vb11) ?hib11 (by kernel_rfl) (by kernel_rfl) (by kernel_rfl) hQ ?hwb11 ?hyb11 ?restb11
        case hib11 => simp only [List.getElem?_toArray, List.getElem?_cons_zero, List.getElem?_cons_succ]; rfl
        case hwb11 => rfl
        case hyb11 => intro W hW; go_simp; with_reducible rfl
        simp only [Act.put, List.setIfInBounds_toArray, List.set_cons_zero, List.set_cons_succ]
        refine ext_take (i := 12) (oi := ?oib12) (v := ?vb12) ?hib12 (by kernel_rfl) (by kernel_rfl) (by kernel_rfl) hQ ?hwb12 ?hyb12 ?restb12
        case hib12 => simp only [List.getElem?_toArray, List.getElem?_cons_zero, List.getElem?_cons_succ]; rfl
        case hwb12 => rfl
        case hyb12 => intro W hW; go_simp; with_reducible rfl
        simp only [Act.put, List.setIfInBounds_toArray, List.set_cons_zero, List.set_cons_succ]
        refine ext_take (i := 13) (oi := ?oib13) (v := ?vb13) ?hib13 (by kernel_rfl) (by kernel_rfl) (by kernel_rfl) hQ ?hwb13 ?hyb13 ?restb13
        case hib13 => simp only [List.getElem?_toArray, List.getElem?_cons_zero, List.getElem?_cons_succ]; rfl
        case hwb13 => rfl
        case hyb13 => intro W hW; go_simp; with_reducible rfl
        simp only [Act.put, List.setIfInBounds_toArray, List.set_cons_zero, List.set_cons_succ]
        refine ext_take (i := 14) (oi := ?oib14) (v := ?vb14) ?hib14 (by kernel_rfl) (by kernel_rfl) (by kernel_rfl) hQ ?hwb14 ?hyb14 ?restb14
        case hib14 => simp only [List.getElem?_toArray, List.getElem?_cons_zero, List.getElem?_cons_succ]; rfl
        case hwb14 => rfl
        case hyb14 => intro W hW; go_simp; with_reducible rfl
        simp only [Act.put, List.setIfInBounds_toArray, List.set_cons_zero, List.set_cons_succ]
        refine ext_skip (i := 15) (oi := ?oib15) ?hib15 (by kernel_rfl) (by kernel_rfl) (by kernel_rfl) hQ ?hwb15 ?restb15
        case hib15 => simp only [List.getElem?_toArray, List.getElem?_cons_zero, List.getElem?_cons_succ]; rfl
        case hwb15 => rfl
        simp only [Act.put, List.setIfInBounds_toArray, List.set_cons_zero, List.set_cons_succ]
        refine ext_skip (i := 16) (oi := ?oib16) ?hib16 (by kernel_rfl) (by kernel_rfl) (by kernel_rfl) hQ ?hwb16 ?restb16
        case hib16 => simp only [List.getElem?_toArray, List.getElem?_cons_zero, List.getElem?_cons_succ]; rfl
        case hwb16 => rfl
        simp only [Act.put, List.setIfInBounds_toArray, List.set_cons_zero, List.set_cons_succ]
        refine ext_skip (i := 17) (oi := ?oib17) ?hib17 (by kernel_rfl) (by kernel_rfl) (by kernel_rfl) hQ ?hwb17 ?restb17
        case hib17 => simp only [List.getElem?_toArray, List.getElem?_cons_zero, List.getElem?_cons_succ]; rfl
        case hwb17 => rfl
        simp only [Act.put, List.setIfInBounds_toArray, List.set_cons_zero, List.set_cons_succ]
        refine ext_skip (i := 18) (oi := ?oib18) ?hib18 (by kernel_rfl) (by kernel_rfl) (by kernel_rfl) hQ ?hwb18 ?restb18
        case hib18 => simp only [List.getElem?_toArray, List.getElem?_cons_zero, List.getElem?_cons_succ]; rfl
        case hwb18 => rfl
        simp only [Act.put, List.setIfInBounds_toArray, List.set_cons_zero, List.set_cons_succ]
        refine ext_skip (i := 19) (oi := ?oib19) ?hib19 (by kernel_rfl) (by kernel_rfl) (by kernel_rfl) hQ ?hwb19 ?restb19
        case hib19 => simp only [List.getElem?_toArray, List.getElem?_cons_zero, List.getElem?_cons_succ]; rfl
        case hwb19 => rfl
        simp only [Act.put, List.setIfInBounds_toArray, List.set_cons_zero, List.set_cons_succ]
        refine ext_skip (i := 20) (oi := ?oib20) ?hib20 (by kernel_rfl) (by kernel_rfl) (by kernel_rfl) hQ ?hwb20 ?restb20
        case hib20 => simp only [List.getElem?_toArray, List.getElem?_cons_zero, List.getElem?_cons_succ]; rfl
        case hwb20 => rfl
        simp only [Act.put, List.setIfInBounds_toArray, List.set_cons_zero, List.set_cons_succ]
        refine ext_skip (i := 21) (oi := ?oib21) ?hib21 (by kernel_rfl) (by kernel_rfl) (by kernel_rfl) hQ ?hwb21 ?restb21
        case hib21 => simp only [List.getElem?_toArray, List.getElem?_cons_zero, List.getElem?_cons_succ]; rfl
        case hwb21 => rfl
        simp only [Act.put, List.setIfInBounds_toArray, List.set_cons_zero, List.set_cons_succ]
        refine ext_skip (i := 22) (oi := ?oib22) ?hib22 (by kernel_rfl) (by kernel_rfl) (by kernel_rfl) hQ ?hwb22 ?restb22
        case hib22 => simp only [List.getElem?_toArray, List.getElem?_cons_zero, List.getElem?_cons_succ]; rfl
        case hwb22 => rfl
        simp only [Act.put, List.setIfInBounds_toArray, List.set_cons_zero, List.set_cons_succ]
        refine ext_skip (i := 23) (oi := ?oib23) ?hib23 (by kernel_rfl) (by kernel_rfl) (by kernel_rfl) hQ ?hwb23 ?restb23
        case hib23 => simp only [List.getElem?_toArray, List.getElem?_cons_zero, List.getElem?_cons_succ]; rfl
        case hwb23 => rfl
        simp only [Act.put, List.setIfInBounds_toArray, List.set_cons_zero, List.set_cons_succ]
        refine ext_skip (i := 24) (oi := ?oib24) ?hib24 (by kernel_rfl) (by kernel_rfl) (by kernel_rfl) hQ ?hwb24 ?restb24
        case hib24 => simp only [List.getElem?_toArray, List.getElem?_cons_zero, List.getElem?_cons_succ]; rfl
        case hwb24 => rfl
        simp only [Act.put, List.setIfInBounds_toArray, List.set_cons_zero, List.set_cons_succ]
        refine ext_skip (i := 25) (oi := ?oib25) ?hib25 (by kernel_rfl) (by kernel_rfl) (by kernel_rfl) hQ ?hwb25 ?restb25
        case hib25 => simp only [List.getElem?_toArray, List.getElem?_cons_zero, List.getElem?_cons_succ]; rfl
        case hwb25 => rfl
        simp only [Act.put, List.setIfInBounds_toArray, List.set_cons_zero, List.set_cons_succ]
        refine ext_skip (i := 26) (oi := ?oib26) ?hib26 (by kernel_rfl) (by kernel_rfl) (by kernel_rfl) hQ ?hwb26 ?restb26
        case hib26 => simp only [List.getElem?_toArray, List.getElem?_cons_zero, List.getElem?_cons_succ]; rfl
        case hwb26 => rfl
        simp only [Act.put, List.setIfInBounds_toArray, List.set_cons_zero, List.set_cons_succ]
        refine ext_skip (i := 27) (oi := ?oib27) ?hib27 (by kernel_rfl) (by kernel_rfl) (by kernel_rfl) hQ ?hwb27 ?restb27
        case hib27 => simp only [List.getElem?_toArray, List.getElem?_cons_zero, List.getElem?_cons_succ]; rfl
        case hwb27 => rfl
        simp only [Act.put, List.setIfInBounds_toArray, List.set_cons_zero, List.set_cons_succ]
        refine ext_skip (i := 28) (oi := ?oib28) ?hib28 (by kernel_rfl) (by kernel_rfl) (by kernel_rfl) hQ ?hwb28 ?restb28
        case hib28 => simp only [List.getElem?_toArray, List.getElem?_cons_zero, List.getElem?_cons_succ]; rfl
        case hwb28 => rfl
        simp only [Act.put, List.setIfInBounds_toArray, List.set_cons_zero, List.set_cons_succ]
        refine ext_skip (i := 29) (oi := ?oib29) ?hib29 (by kernel_rfl) (by kernel_rfl) (by kernel_rfl) hQ ?hwb29 ?restb29
        case hib29 => simp only [List.getElem?_toArray, List.getElem?_cons_zero, List.getElem?_cons_succ]; rfl
        case hwb29 => rfl
        simp only [Act.put, List.setIfInBounds_toArray, List.set_cons_zero, List.set_cons_succ]
        refine ext_skip (i := 30) (oi := ?oib30) ?hib30 (by kernel_rfl) (by kernel_rfl) (by kernel_rfl) hQ ?hwb30 ?restb30
        case hib30 => simp only [List.getElem?_toArray, List.getElem?_cons_zero, List.getElem?_cons_succ]; rfl
        case hwb30 => rfl
        simp only [Act.put, List.setIfInBounds_toArray, List.set_cons_zero, List.set_cons_succ]
        refine ext_take (i := 31) (oi := ?oib31) (v := ?vb31) ?hib31 (by kernel_rfl) (by kernel_rfl) (by kernel_rfl) hQ ?hwb31 ?hyb31 ?restb31
        case hib31 => simp only [List.getElem?_toArray, List.getElem?_cons_zero, List.getElem?_cons_succ]; rfl
        case hwb31 => rfl
        case hyb31 => intro W hW; go_simp; with_reducible rfl
        simp only [Act.put, List.setIfInBounds_toArray, List.set_cons_zero, List.set_cons_succ]
        refine wpAnyH_done (by kernel_rfl) ?_ _
        simp only [NoP]
        go_wp2_with fail
        go_ret
        exact ⟨by rw [HE.out]; rfl, hB⟩
      have hb7' : decide ((7 : Int) < (b : Int)) = false := by simp; omega
      by_cases h0 : j = 0
      · have hm0 := HM0.out h0
        have HE := Lib.hid (show ordB 0 L = ordB b (L.drop (j + 1)) from by rw [HH.out, ordB, decide_eq_true (by simp only; omega)]; rfl)
        have hj1 : j < 1 := by omega
        have hb0 : ¬ 0 < j := by omega
        have hb0' : decide (0 < j) = false := by simp; omega
        have hb0'' : decide ((0 : Int) < (j : Int)) = false := by simp; omega
        clear hm0 h0 hpv
        go_wp2_with fail
        refine nop_wp (ext_start (by kernel_rfl) calm_nop (fun hQ => ?_))
        replace hB := hB.drew
        replace c0 : wr.drew.cell? _ = _ := c0
        replace hab : ad.block < wr.drew.heap.size := hab
        generalize wr.drew = x at *
        have X0 : ∀ W, Ext x W → W.cell? (ad.add (j * 2)) = some (.int .u8 (b : Int)) := fun W h => (Below.cell h (by rw [block_of_add]; exact hab)).trans c0
        refine ext_take (i := 0) (oi := ?oic0) (v := ?vc0) ?hic0 (by kernel_rfl) (by kernel_rfl) (by kernel_rfl) hQ ?hwc0 ?hyc0 ?restc0
        case hic0 => simp only [List.getElem?_toArray, List.getElem?_cons_zero]; rfl
        case hwc0 => rfl
        case hyc0 => intro W hW; go_simp; with_reducible rfl
        simp only [Act.put, List.setIfInBounds_toArray, List.set_cons_zero, List.set_cons_succ]
        refine ext_take (i := 1) (oi := ?oic1) (v := ?vc1) ?hic1 (by kernel_rfl) (by kernel_rfl) (by kernel_rfl) hQ ?hwc1 ?hyc1 ?restc1
        case hic1 => simp only [List.getElem?_toArray, List.getElem?_cons_zero, List.getElem?_cons_succ]; rfl
        case hwc1 => rfl
        case hyc1 => intro W hW; go_simp; with_reducible rfl
        simp only [Act.put, List.setIfInBounds_toArray, List.set_cons_zero, List.set_cons_succ]
        refine ext_take (i := 2) (oi := ?oic2) (v := ?vc2) ?hic2 (by kernel_rfl) (by kernel_rfl) (by kernel_rfl) hQ ?hwc2 ?hyc2 ?restc2
        case hic2 => simp only [List.getElem?_toArray, List.getElem?_cons_zero, List.getElem?_cons_succ]; rfl
        case hwc2 => rfl
        case hyc2 => intro W hW; go_simp; with_reducible rfl
        simp only [Act.put, List.setIfInBounds_toArray, List.set_cons_zero, List.set_cons_succ]
        refine ext_take (i := 3) (oi := ?oic3) (v := ?vc3) ?hic3 (by kernel_rfl) (by kernel_rfl) (by kernel_rfl) hQ ?hwc3 ?hyc3 ?restc3
        case hic3 => simp only [List.getElem?_toArray, List.getElem?_cons_zero, List.getElem?_cons_succ]; rfl
        case hwc3 => rfl
        case hyc3 => intro W hW; go_simp; with_reducible rfl
        simp only [Act.put, List.setIfInBounds_toArray, List.set_cons_zero, List.set_cons_succ]
        refine ext_take (i := 4) (oi := ?oic4) (v := ?vc4) ?hic4 (by kernel_rfl) (by kernel_rfl) (by kernel_rfl) hQ ?hwc4 ?hyc4 ?restc4
        case hic4 => simp only [List.getElem?_toArray, List.getElem?_cons_zero, List.getElem?_cons_succ]; rfl
        case hwc4 => rfl
        case hyc4 => intro W hW; go_simp; with_reducible rfl
        simp only [Act.put, List.setIfInBounds_toArray, List.set_cons_zero, List.set_cons_succ]
        refine ext_take (i := 5) (oi := ?oic5) (v := ?vc5) ?hic5 (by kernel_rfl) (by kernel_rfl) (by kernel_rfl) hQ ?hwc5 ?hyc5 ?restc5
        case hic5 => simp only [List.getElem?_toArray, List.getElem?_cons_zero, List.getElem?_cons_succ]; rfl
        case hwc5 => rfl
        case hyc5 => intro W hW; go_simp; with_reducible rfl
        simp only [Act.put, List.setIfInBounds_toArray, List.set_cons_zero, List.set_cons_succ]
        refine ext_take (i := 6) (oi := ?oic6) (v := ?vc6) ?hic6 (by kernel_rfl) (by kernel_rfl) (by kernel_rfl) hQ ?hwc6 ?hyc6 ?restc6
        case hic6 => simp only [List.getElem?_toArray, List.getElem?_cons_zero, List.getElem?_cons_succ]; rfl
        case hwc6 => rfl
        case hyc6 => intro W hW; go_simp; with_reducible rfl
        simp only [Act.put, List.setIfInBounds_toArray, List.set_cons_zero, List.set_cons_succ]
        refine ext_take (i := 7) (oi := ?oic7) (v := ?vc7) ?hic7 (by kernel_rfl) (by kernel_rfl) (by kernel_rfl) hQ ?hwc7 ?hyc7 ?restc7
        case hic7 => simp only [List.getElem?_toArray, List.getElem?_cons_zero, List.getElem?_cons_succ]; rfl
        case hwc7 => rfl
        case hyc7 => intro W hW; go_simp; with_reducible rfl
        simp only [Act.put, List.setIfInBounds_toArray, List.set_cons_zero, List.set_cons_succ]
        refine ext_take (i := 8) (oi := ?oic8) (v := ?vc8) ?hic8 (by kernel_rfl) (by kernel_rfl) (by kernel_rfl) hQ ?hwc8 ?hyc8 ?restc8
        case hic8 => simp only [List.getElem?_toArray, List.getElem?_cons_zero, List.getElem?_cons_succ]; rfl
        case hwc8 => rfl
        case hyc8 => intro W hW; go_simp; with_reducible rfl
        simp only [Act.put, List.setIfInBounds_toArray, List.set_cons_zero, List.set_cons_succ]
        refine ext_take (i := 9) (oi := ?oic9) (v := ?vc9) ?hic9 (by kernel_rfl) (by kernel_rfl) (by kernel_rfl) hQ ?hwc9 ?hyc9 ?restc9
        case hic9 => simp only [List.getElem?_toArray, List.getElem?_cons_zero, List.getElem?_cons_succ]; rfl
        case hwc9 => rfl
        case hyc9 => intro W hW; go_simp; with_reducible rfl
        simp only [Act.put, List.setIfInBounds_toArray, List.set_cons_zero, List.set_cons_succ]
        refine ext_take (i := 10) (oi := ?oic10) (v := ?vc10) ?hic10 (by kernel_rfl) (by kernel_rfl) (by kernel_rfl) hQ ?hwc10 ?hyc10 ?restc10
        case hic10 => simp only [List.getElem?_toArray, List.getElem?_cons_zero, List.getElem?_cons_succ]; rfl
        case hwc10 => rfl
        case hyc10 => intro W hW; go_simp; with_reducible rfl
        simp only [Act.put, List.setIfInBounds_toArray, List.set_cons_zero, List.set_cons_succ]
        refine ext_take (i := 11) (oi := ?oic11) (v := ?vc11) ?hic11 (by kernel_rfl) (by kernel_rfl) (by kernel_rfl) hQ ?hwc11 ?hyc11 ?restc11
        case hic11 => simp only [List.getElem?_toArray, List.getElem?_cons_zero, List.getElem?_cons_succ]; rfl
        case hwc11 => rfl
        case hyc11 => intro W hW; go_simp; with_reducible rfl
        simp only [Act.put, List.setIfInBounds_toArray, List.set_cons_zero, List.set_cons_succ]
        refine ext_take (i := 12) (oi := ?oic12) (v := ?vc12) ?hic12 (by kernel_rfl) (by kernel_rfl) (by kernel_rfl) hQ ?hwc12 ?hyc12 ?restc12
        case hic12 => simp only [List.getElem?_toArray, List.getElem?_cons_zero, List.getElem?_cons_succ]; rfl
        case hwc12 => rfl
        case hyc12 => intro W hW; go_simp; with_reducible rfl
        simp only [Act.put, List.setIfInBounds_toArray, List.set_cons_zero, List.set_cons_succ]
        refine ext_take (i := 13) (oi := ?oic13) (v := ?vc13) ?hic13 (by kernel_rfl) (by kernel_rfl) (by kernel_rfl) hQ ?hwc13 ?hyc13 ?restc13
        case hic13 => simp only [List.getElem?_toArray, List.getElem?_cons_zero, List.getElem?_cons_succ]; rfl
        case hwc13 => rfl
        case hyc13 => intro W hW; go_simp; with_reducible rfl
        simp only [Act.put, List.setIfInBounds_toArray, List.set_cons_zero, List.set_cons_succ]
        refine ext_take (i := 14) (oi := ?oic14) (v := ?vc14) ?hic14 (by kernel_rfl) (by kernel_rfl) (by kernel_rfl) hQ ?hwc14 ?hyc14 ?restc14
        case hic14 => simp only [List.getElem?_toArray, List.getElem?_cons_zero, List.getElem?_cons_succ]; rfl
        case hwc14 => rfl
        case hyc14 => intro W hW; go_simp; with_reducible rfl
        simp only [Act.put, List.setIfInBounds_toArray, List.set_cons_zero, List.set_cons_succ]
        refine ext_take (i := 15) (oi := ?oic15) (v := ?vc15) ?hic15 (by kernel_rfl) (by kernel_rfl) (by kernel_rfl) hQ ?hwc15 ?hyc15 ?restc15
        case hic15 => simp only [List.getElem?_toArray, List.getElem?_cons_zero, List.getElem?_cons_succ]; rfl
        case hwc15 => rfl
        case hyc15 => intro W hW; go_simp; with_reducible rfl
        simp only [Act.put, List.setIfInBounds_toArray, List.set_cons_zero, List.set_cons_succ]
        refine ext_take (i := 16) (oi := ?oic16) (v := ?vc16) ?hic16 (by kernel_rfl) (by kernel_rfl) (by kernel_rfl) hQ ?hwc16 ?hyc16 ?restc16
        case hic16 => simp only [List.getElem?_toArray, List.getElem?_cons_zero, List.getElem?_cons_succ]; rfl
        case hwc16 => rfl
        case hyc16 => intro W hW; go_simp; with_reducible rfl
        simp only [Act.put, List.setIfInBounds_toArray, List.set_cons_zero, List.set_cons_succ]
        refine ext_take (i := 17) (oi := ?oic17) (v := ?vc17) ?hic17 (by kernel_rfl) (by kernel_rfl) (by kernel_rfl) hQ ?hwc17 ?hyc17 ?restc17
        case hic17 => simp only [List.getElem?_toArray, List.getElem?_cons_zero, List.getElem?_cons_succ]; rfl
        case hwc17 => rfl
        case hyc17 => intro W hW; go_simp; with_reducible rfl
        simp only [Act.put, List.setIfInBounds_toArray, List.set_cons_zero, List.set_cons_succ]
        refine ext_skip (i := 18) (oi := ?oic18) ?hic18 (by kernel_rfl) (by kernel_rfl) (by kernel_rfl) hQ ?hwc18 ?restc18
        case hic18 => simp only [List.getElem?_toArray, List.getElem?_cons_zero, List.getElem?_cons_succ]; rfl
        case hwc18 => rfl
        simp only [Act.put, List.setIfInBounds_toArray, List.set_cons_zero, List.set_cons_succ]
        refine ext_skip (i := 19) (oi := ?oic19) ?hic19 (by kernel_rfl) (by kernel_rfl) (by kernel_rfl) hQ ?hwc19 ?restc19
        case hic19 => simp only [List.getElem?_toArray, List.getElem?_cons_zero, List.getElem?_cons_succ]; rfl
        case hwc19 => rfl
        simp only [Act.put, List.setIfInBounds_toArray, List.set_cons_zero, List.set_cons_succ]
        refine ext_skip (i := 20) (oi := ?oic20) ?hic20 (by kernel_rfl) (by kernel_rfl) (by kernel_rfl) hQ ?hwc20 ?restc20
        case hic20 => simp only [List.getElem?_toArray, List.getElem?_cons_zero, List.getElem?_cons_succ]; rfl
        case hwc20 => rfl
        simp only [Act.put, List.setIfInBounds_toArray, List.set_cons_zero, List.set_cons_succ]
        refine ext_skip (i := 21) (oi := ?oic21) ?hic21 (by kernel_rfl) (by kernel_rfl) (by kernel_rfl) hQ ?hwc21 ?restc21
        case hic21 => simp only [List.getElem?_toArray, List.getElem?_cons_zero, List.getElem?_cons_succ]; rfl
        case hwc21 => rfl
        simp only [Act.put, List.setIfInBounds_toArray, List.set_cons_zero, List.set_cons_succ]
        refine ext_skip (i := 22) (oi := ?oic22) ?hic22 (by kernel_rfl) (by kernel_rfl) (by kernel_rfl) hQ ?hwc22 ?restc22
        case hic22 => simp only [List.getElem?_toArray, List.getElem?_cons_zero, List.getElem?_cons_succ]; rfl
        case hwc22 => rfl
        simp only [Act.put, List.setIfInBounds_toArray, List.set_cons_zero, List.set_cons_succ]
        refine ext_skip (i := 23) (oi := ?oic23) ?hic23 (by kernel_rfl) (by kernel_rfl) (by kernel_rfl) hQ ?hwc23 ?restc23
        case hic23 => simp only [List.getElem?_toArray, List.getElem?_cons_zero, List.getElem?_cons_succ]; rfl
        case hwc23 => rfl
        simp only [Act.put, List.setIfInBounds_toArray, List.set_cons_zero, List.set_cons_succ]
        refine ext_skip (i := 24) (oi := ?oic24) ?hic24 (by kernel_rfl) (by kernel_rfl) (by kernel_rfl) hQ ?hwc24 ?restc24
        case hic24 => simp only [List.getElem?_toArray, List.getElem?_cons_zero, List.getElem?_cons_succ]; rfl
        case hwc24 => rfl
        simp only [Act.put, List.setIfInBounds_toArray, List.set_cons_zero, List.set_cons_succ]
        refine ext_skip (i := 25) (oi := ?oic25) ?hic25 (by kernel_rfl) (by kernel_rfl) (by kernel_rfl) hQ ?hwc25 ?restc25
        case hic25 => simp only [List.getElem?_toArray, List.getElem?_cons_zero, List.getElem?_cons_succ]; rfl
        case hwc25 => rfl
        simp only [Act.put, List.setIfInBounds_toArray, List.set_cons_zero, List.set_cons_succ]
        refine ext_skip (i := 26) (oi := ?oic26) ?hic26 (by kernel_rfl) (by kernel_rfl) (by kernel_rfl) hQ ?hwc26 ?restc26
        case hic26 => simp only [List.getElem?_toArray, List.getElem?_cons_zero, List.getElem?_cons_succ]; rfl
        case hwc26 => rfl
        simp only [Act.put, List.setIfInBounds_toArray, List.set_cons_zero, List.set_cons_succ]
        refine ext_skip (i := 27) (oi := ?oic27) ?hic27 (by kernel_rfl) (by kernel_rfl) (by kernel_rfl) hQ ?hwc27 ?restc27
        case hic27 => simp only [List.getElem?_toArray, List.getElem?_cons_zero, List.getElem?_cons_succ]; rfl
        case hwc27 => rfl
        simp only [Act.put, List.setIfInBounds_toArray, List.set_cons_zero, List.set_cons_succ]
        refine ext_skip (i := 28) (oi := ?oic28) ?hic28 (by kernel_rfl) (by kernel_rfl) (by kernel_rfl) hQ ?hwc28 ?restc28
        case hic28 => simp only [List.getElem?_toArray, List.getElem?_cons_zero, List.getElem?_cons_succ]; rfl
        case hwc28 => rfl
        simp only [Act.put, List.setIfInBounds_toArray, List.set_cons_zero, List.set_cons_succ]
        refine ext_skip (i := 29) (oi := ?oic29) ?hic29 (by kernel_rfl) (by kernel_rfl) (by kernel_rfl) hQ ?hwc29 ?restc29
        case hic29 => simp only [List.getElem?_toArray, List.getElem?_cons_zero, List.getElem?_cons_succ]; rfl
        case hwc29 => rfl
        simp only [Act.put, List.setIfInBounds_toArray, List.set_cons_zero, List.set_cons_succ]
        refine ext_take (i := 30) (oi := ?oic30) (v := ?vc30) ?hic30 (by kernel_rfl) (by kernel_rfl) (by kernel_rfl) hQ ?hwc30 ?hyc30 ?restc30
        case hic30 => simp only [List.getElem?_toArray, List.getElem?_cons_zero, List.getElem?_cons_succ]; rfl
        case hwc30 => rfl
        case hyc30 => intro W hW; go_simp; with_reducible rfl
        simp only [Act.put, List.setIfInBounds_toArray, List.set_cons_zero, List.set_cons_succ]
        refine ext_take (i := 31) (oi := ?oic31) (v := ?vc31) ?hic31 (by kernel_rfl) (by kernel_rfl) (by kernel_rfl) hQ ?hwc31 ?hyc31 ?restc31
        case hic31 => simp only [List.getElem?_toArray, List.getElem?_cons_zero, List.getElem?_cons_succ]; rfl
        case hwc31 => rfl
        case hyc31 => intro W hW; go_simp; with_reducible rfl
        simp only [Act.put, List.setIfInBounds_toArray, List.set_cons_zero, List.set_cons_succ]
        refine wpAnyH_done (by kernel_rfl) ?_ _
        simp only [NoP]
        go_wp2_with fail
        go_roundw
        case rel => exact ⟨j + 1, by omega, by go_num, ⟨by rw [HNX.out]; exact HE.out, by rw [HNX.out]; omega, by rw [HNX.out]; omega⟩, hB⟩
        case measure => simp [intOf]; omega
      have hp := hpv (by omega)
      obtain ⟨jp, hjp⟩ : ∃ jp, j - 1 = jp := ⟨_, rfl⟩
      rw [hjp] at hp
      have hj0 : decide ((0 : Int) < (j : Int)) = true := by simp; omega
      have hj0b : 0 < j := by omega
      have hj0c : decide (0 < j) = true := by simp; omega
      have hjj : ((j : Int) - 1) = (jp : Int) := by omega
      have hjw : IntKind.i64.wrap (jp : Int) = (jp : Int) := by rw [IntKind.wrap_i64]; omega
      have hjpn : jp < n := by omega
      have hjpn2 : (jp : Int) < (n : Int) := by omega
      clear hjp hpv
      by_cases hmb : b ≤ m
      · have HE := Lib.hid (show ordB 0 L = false from by rw [HH.out, ordB, decide_eq_false (by simp only; omega)]; rfl)
        have hmb' : decide ((b : Int) ≤ (m : Int)) = true := by simp; omega
        go_wp2_with fail
        refine nop_wp (ext_start (by kernel_rfl) calm_nop (fun hQ => ?_))
        replace hB := hB.drew
        replace c0 : wr.drew.cell? _ = _ := c0
        replace hab : ad.block < wr.drew.heap.size := hab
        replace hp : wr.drew.cell? _ = _ := hp
        generalize wr.drew = x at *
        have X0 : ∀ W, Ext x W → W.cell? (ad.add (j * 2)) = some (.int .u8 (b : Int)) := fun W h => (Below.cell h (by rw [block_of_add]; exact hab)).trans c0
        have X1 : ∀ W, Ext x W → W.cell? (ad.add (jp * 2)) = some (.int .u8 (m : Int)) := fun W h => (Below.cell h (by rw [block_of_add]; exact hab)).trans hp
        refine ext_take (i := 0) (oi := ?oid0) (v := ?vd0) ?hid0 (by kernel_rfl) (by kernel_rfl) (by kernel_rfl) hQ ?hwd0 ?hyd0 ?restd0
        case hid0 => simp only [List.getElem?_toArray, List.getElem?_cons_zero]; rfl
        case hwd0 => rfl
        case hyd0 => intro W hW; go_simp; with_reducible rfl
        simp only [Act.put, List.setIfInBounds_toArray, List.set_cons_zero, List.set_cons_succ]
        refine ext_take (i := 1) (oi := ?oid1) (v := ?vd1) ?hid1 (by kernel_rfl) (by kernel_rfl) (by kernel_rfl) hQ ?hwd1 ?hyd1 ?restd1
        case hid1 => simp only [List.getElem?_toArray, List.getElem?_cons_zero, List.getElem?_cons_succ]; rfl
        case hwd1 => rfl
        case hyd1 => intro W hW; go_simp; with_reducible rfl
        simp only [Act.put, List.setIfInBounds_toArray, List.set_cons_zero, List.set_cons_succ]
        refine ext_take (i := 2) (oi := ?oid2) (v := ?vd2) ?hid2 (by kernel_rfl) (by kernel_rfl) (by kernel_rfl) hQ ?hwd2 ?hyd2 ?restd2
        case hid2 => simp only [List.getElem?_toArray, List.getElem?_cons_zero, List.getElem?_cons_succ]; rfl
        case hwd2 => rfl
        case hyd2 => intro W hW; go_simp; with_reducible rfl
        simp only [Act.put, List.setIfInBounds_toArray, List.set_cons_zero, List.set_cons_succ]
        refine ext_take (i := 3) (oi := ?oid3) (v := ?vd3) ?hid3 (by kernel_rfl) (by kernel_rfl) (by kernel_rfl) hQ ?hwd3 ?hyd3 ?restd3
        case hid3 => simp only [List.getElem?_toArray, List.getElem?_cons_zero, List.getElem?_cons_succ]; rfl
        case hwd3 => rfl
        case hyd3 => intro W hW; go_simp; with_reducible rfl
        simp only [Act.put, List.setIfInBounds_toArray, List.set_cons_zero, List.set_cons_succ]
        refine ext_take (i := 4) (oi := ?oid4) (v := ?vd4) ?hid4 (by kernel_rfl) (by kernel_rfl) (by kernel_rfl) hQ ?hwd4 ?hyd4 ?restd4
        case hid4 => simp only [List.getElem?_toArray, List.getElem?_cons_zero, List.getElem?_cons_succ]; rfl
        case hwd4 => rfl
        case hyd4 => intro W hW; go_simp; with_reducible rfl
        simp only [Act.put, List.setIfInBounds_toArray, List.set_cons_zero, List.set_cons_succ]
        refine ext_take (i := 5) (oi := ?oid5) (v := ?vd5) ?hid5 (by kernel_rfl) (by kernel_rfl) (by kernel_rfl) hQ ?hwd5 ?hyd5 ?restd5
        case hid5 => simp only [List.getElem?_toArray, List.getElem?_cons_zero, List.getElem?_cons_succ]; rfl
        case hwd5 => rfl
        case hyd5 => intro W hW; go_simp; with_reducible rfl
        simp only [Act.put, List.setIfInBounds_toArray, List.set_cons_zero, List.set_cons_succ]
        refine ext_take (i := 6) (oi := ?oid6) (v := ?vd6) ?hid6 (by kernel_rfl) (by kernel_rfl) (by kernel_rfl) hQ ?hwd6 ?hyd6 ?restd6
        case hid6 => simp only [List.getElem?_toArray, List.getElem?_cons_zero, List.getElem?_cons_succ]; rfl
        case hwd6 => rfl
        case hyd6 => intro W hW; go_simp; with_reducible rfl
        simp only [Act.put, List.setIfInBounds_toArray, List.set_cons_zero, List.set_cons_succ]
        refine ext_take (i := 7) (oi := ?oid7) (v := ?vd7) ?hid7 (by kernel_rfl) (by kernel_rfl) (by kernel_rfl) hQ ?hwd7 ?hyd7 ?restd7
        case hid7 => simp only [List.getElem?_toArray, List.getElem?_cons_zero, List.getElem?_cons_succ]; rfl
        case hwd7 => rfl
        case hyd7 => intro W hW; go_simp; with_reducible rfl
        simp only [Act.put, List.setIfInBounds_toArray, List.set_cons_zero, List.set_cons_succ]
        refine ext_take (i := 8) (oi := ?oid8) (v := ?vd8) ?hid8 (by kernel_rfl) (by kernel_rfl) (by kernel_rfl) hQ ?hwd8 ?hyd8 ?restd8
        case hid8 => simp only [List.getElem?_toArray, List.getElem?_cons_zero, List.getElem?_cons_succ]; rfl
        case hwd8 => rfl
        case hyd8 => intro W hW; go_simp; with_reducible rfl
        simp only [Act.put, List.setIfInBounds_toArray, List.set_cons_zero, List.set_cons_succ]
        refine ext_take (i := 9) (oi := ?oid9) (v := ?vd9) ?hid9 (by kernel_rfl) (by kernel_rfl) (by kernel_rfl) hQ ?hwd9 ?hyd9 ?restd9
        case hid9 => simp only [List.getElem?_toArray, List.getElem?_cons_zero, List.getElem?_cons_succ]; rfl
        case hwd9 => rfl
        case hyd9 => intro W hW; go_simp; with_reducible rfl
        simp only [Act.put, List.setIfInBounds_toArray, List.set_cons_zero, List.set_cons_succ]
        refine ext_take (i := 10) (oi := ?oid10) (v := ?vd10) ?hid10 (by kernel_rfl) (by kernel_rfl) (by kernel_rfl) hQ ?hwd10 ?hyd10 ?restd10
        case hid10 => simp only [List.getElem?_toArray, List.getElem?_cons_zero, List.getElem?_cons_succ]; rfl
        case hwd10 => rfl
        case hyd10 => intro W hW; go_simp; with_reducible rfl
        simp only [Act.put, List.setIfInBounds_toArray, List.set_cons_zero, List.set_cons_succ]
        refine ext_take (i := 11) (oi := ?oid11) (v := ?vd11) ?hid11 (by kernel_rfl) (by kernel_rfl) (by kernel_rfl) hQ ?hwd11 ?hyd11 ?restd11
        case hid11 => simp only [List.getElem?_toArray, List.getElem?_cons_zero, List.getElem?_cons_succ]; rfl
        case hwd11 => rfl
        case hyd11 => intro W hW; go_simp; with_reducible rfl
        simp only [Act.put, List.setIfInBounds_toArray, List.set_cons_zero, List.set_cons_succ]
        refine ext_take (i := 12) (oi := ?oid12) (v := ?vd12) ?hid12 (by kernel_rfl) (by kernel_rfl) (by kernel_rfl) hQ ?hwd12 ?hyd12 ?restd12
        case hid12 => simp only [List.getElem?_toArray, List.getElem?_cons_zero, List.getElem?_cons_succ]; rfl
        case hwd12 => rfl
        case hyd12 => intro W hW; go_simp; with_reducible rfl
        simp only [Act.put, List.setIfInBounds_toArray, List.set_cons_zero, List.set_cons_succ]
        refine ext_take (i := 13) (oi := ?oid13) (v := ?vd13) ?hid13 (by kernel_rfl) (by kernel_rfl) (by kernel_rfl) hQ ?hwd13 ?hyd13 ?restd13
        case hid13 => simp only [List.getElem?_toArray, List.getElem?_cons_zero, List.getElem?_cons_succ]; rfl
        case hwd13 => rfl
        case hyd13 => intro W hW; go_simp; with_reducible rfl
        simp only [Act.put, List.setIfInBounds_toArray, List.set_cons_zero, List.set_cons_succ]
        refine ext_take (i := 14) (oi := ?oid14) (v := ?vd14) ?hid14 (by kernel_rfl) (by kernel_rfl) (by kernel_rfl) hQ ?hwd14 ?hyd14 ?restd14
        case hid14 => simp only [List.getElem?_toArray, List.getElem?_cons_zero, List.getElem?_cons_succ]; rfl
        case hwd14 => rfl
        case hyd14 => intro W hW; go_simp; with_reducible rfl
        simp only [Act.put, List.setIfInBounds_toArray, List.set_cons_zero, List.set_cons_succ]
        refine ext_take (i := 15) (oi := ?oid15) (v := ?vd15) ?hid15 (by kernel_rfl) (by kernel_rfl) (by kernel_rfl) hQ ?hwd15 ?hyd15 ?restd15
        case hid15 => simp only [List.getElem?_toArray, List.getElem?_cons_zero, List.getElem?_cons_succ]; rfl
        case hwd15 => rfl
        case hyd15 => intro W hW; go_simp; with_reducible rfl
        simp only [Act.put, List.setIfInBounds_toArray, List.set_cons_zero, List.set_cons_succ]
        refine ext_take (i := 16) (oi := ?oid16) (v := ?vd16) ?hid16 (by kernel_rfl) (by kernel_rfl) (by kernel_rfl) hQ ?hwd16 ?hyd16 ?restd16
        case hid16 => simp only [List.getElem?_toArray, List.getElem?_cons_zero, List.getElem?_cons_succ]; rfl
        case hwd16 => rfl
        case hyd16 => intro W hW; go_simp; with_reducible rfl
        simp only [Act.put, List.setIfInBounds_toArray, List.set_cons_zero, List.set_cons_succ]
        refine ext_take (i := 17) (oi := ?oid17) (v := ?vd17) ?hid17 (by kernel_rfl) (by kernel_rfl) (by kernel_rfl) hQ ?hwd17 ?hyd17 ?restd17
        case hid17 => simp only [List.getElem?_toArray, List.getElem?_cons_zero, List.getElem?_cons_succ]; rfl
        case hwd17 => rfl
        case hyd17 => intro W hW; go_simp; with_reducible rfl
        simp only [Act.put, List.setIfInBounds_toArray, List.set_cons_zero, List.set_cons_succ]
        refine ext_take (i := 18) (oi := ?oid18) (v := ?vd18) ?hid18 (by kernel_rfl) (by kernel_rfl) (by kernel_rfl) hQ ?hwd18 ?hyd18 ?restd18
        case hid18 => simp only [List.getElem?_toArray, List.getElem?_cons_zero, List.getElem?_cons_succ]; rfl
        case hwd18 => rfl
        case hyd18 => intro W hW; go_simp; with_reducible rfl
        simp only [Act.put, List.setIfInBounds_toArray, List.set_cons_zero, List.set_cons_succ]
        refine ext_take (i := 19) (oi := ?oid19) (v := ?vd19) ?hid19 (by kernel_rfl) (by kernel_rfl) (by kernel_rfl) hQ ?hwd19 ?hyd19 ?restd19
        case hid19 => simp only [List.getElem?_toArray, List.getElem?_cons_zero, List.getElem?_cons_succ]; rfl
        case hwd19 => rfl
        case hyd19 => intro W hW; go_simp; with_reducible rfl
        simp only [Act.put, List.setIfInBounds_toArray, List.set_cons_zero, List.set_cons_succ]
        refine ext_take (i := 20) (oi := ?oid20) (v := ?vd20) ?hid20 (by kernel_rfl) (by kernel_rfl) (by kernel_rfl) hQ ?hwd20 ?hyd20 ?restd20
        case hid20 => simp only [List.getElem?_toArray, List.getElem?_cons_zero, List.getElem?_cons_succ]; rfl
        case hwd20 => rfl
        case hyd20 => intro W hW; go_simp; with_reducible rfl
        simp only [Act.put, List.setIfInBounds_toArray, List.set_cons_zero, List.set_cons_succ]
        refine ext_take (i := 21) (oi := ?oid21) (v := ?vd21) ?hid21 (by kernel_rfl) (by kernel_rfl) (by kernel_rfl) hQ ?hwd21 ?hyd21 ?restd21
        case hid21 => simp only [List.getElem?_toArray, List.getElem?_cons_zero, List.getElem?_cons_succ]; rfl
        case hwd21 => rfl
        case hyd21 => intro W hW; go_simp; with_reducible rfl
        simp only [Act.put, List.setIfInBounds_toArray, List.set_cons_zero, List.set_cons_succ]
        refine ext_take (i := 22) (oi := ?oid22) (v := ?vd22) ?hid22 (by kernel_rfl) (by kernel_rfl) (by kernel_rfl) hQ ?hwd22 ?hyd22 ?restd22
        case hid22 => simp only [List.getElem?_toArray, List.getElem?_cons_zero, List.getElem?_cons_succ]; rfl
        case hwd22 => rfl
        case hyd22 => intro W hW; go_simp; with_reducible rfl
        simp only [Act.put, List.setIfInBounds_toArray, List.set_cons_zero, List.set_cons_succ]
        refine ext_take (i := 23) (oi := ?oid23) (v := ?vd23) ?hid23 (by kernel_rfl) (by kernel_rfl) (by kernel_rfl) hQ ?hwd23 ?hyd23 ?restd23
        case hid23 => simp only [List.getElem?_toArray, List.getElem?_cons_zero, List.getElem?_cons_succ]; rfl
        case hwd23 => rfl
        case hyd23 => intro W hW; go_simp; with_reducible rfl
        simp only [Act.put, List.setIfInBounds_toArray, List.set_cons_zero, List.set_cons_succ]
        refine ext_take (i := 24) (oi := ?oid24) (v := ?vd24) ?hid24 (by kernel_rfl) (by kernel_rfl) (by kernel_rfl) hQ ?hwd24 ?hyd24 ?restd24
        case hid24 => simp only [List.getElem?_toArray, List.getElem?_cons_zero, List.getElem?_cons_succ]; rfl
        case hwd24 => rfl
        case hyd24 => intro W hW; go_simp; with_reducible rfl
        simp only [Act.put, List.setIfInBounds_toArray, List.set_cons_zero, List.set_cons_succ]
        refine ext_take (i := 25) (oi := ?oid25) (v := ?vd25) ?hid25 (by kernel_rfl) (by kernel_rfl) (by kernel_rfl) hQ ?hwd25 ?hyd25 ?restd25
        case hid25 => simp only [List.getElem?_toArray, List.getElem?_cons_zero, List.getElem?_cons_succ]; rfl
        case hwd25 => rfl
        case hyd25 => intro W hW; go_simp; with_reducible rfl
        simp only [Act.put, List.setIfInBounds_toArray, List.set_cons_zero, List.set_cons_succ]
        refine ext_take (i := 26) (oi := ?oid26) (v := ?vd26) ?hid26 (by kernel_rfl) (by kernel_rfl) (by kernel_rfl) hQ ?hwd26 ?hyd26 ?restd26
        case hid26 => simp only [List.getElem?_toArray, List.getElem?_cons_zero, List.getElem?_cons_succ]; rfl
        case hwd26 => rfl
        case hyd26 => intro W hW; go_simp; with_reducible rfl
        simp only [Act.put, List.setIfInBounds_toArray, List.set_cons_zero, List.set_cons_succ]
        refine ext_take (i := 27) (oi := ?oid27) (v := ?vd27) ?hid27 (by kernel_rfl) (by kernel_rfl) (by kernel_rfl) hQ ?hwd27 ?hyd27 ?restd27
        case hid27 => simp only [List.getElem?_toArray, List.getElem?_cons_zero, List.getElem?_cons_succ]; rfl
        case hwd27 => rfl
        case hyd27 => intro W hW; go_simp; with_reducible rfl
        simp only [Act.put, List.setIfInBounds_toArray, List.set_cons_zero, List.set_cons_succ]
        refine ext_take (i := 28) (oi := ?oid28) (v := ?vd28) ?hid28 (by kernel_rfl) (by kernel_rfl) (by kernel_rfl) hQ ?hwd28 ?hyd28 ?restd28
        case hid28 => simp only [List.getElem?_toArray, List.getElem?_cons_zero, List.getElem?_cons_succ]; rfl
        case hwd28 => rfl
        case hyd28 => intro W hW; go_simp; with_reducible rfl
        simp only [Act.put, List.setIfInBounds_toArray, List.set_cons_zero, List.set_cons_succ]
        refine ext_take (i := 29) (oi := ?oid29) (v := ?vd29) ?hid29 (by kernel_rfl) (by kernel_rfl) (by kernel_rfl) hQ ?hwd29 ?hyd29 ?restd29
        case hid29 => simp only [List.getElem?_toArray, List.getElem?_cons_zero, List.getElem?_cons_succ]; rfl
        case hwd29 => rfl
        case hyd29 => intro W hW; go_simp; with_reducible rfl
        simp only [Act.put, List.setIfInBounds_toArray, List.set_cons_zero, List.set_cons_succ]
        refine ext_take (i := 30) (oi := ?oid30) (v := ?vd30) ?hid30 (by kernel_rfl) (by kernel_rfl) (by kernel_rfl) hQ ?hwd30 ?hyd30 ?restd30
        case hid30 => simp only [List.getElem?_toArray, List.getElem?_cons_zero, List.getElem?_cons_succ]; rfl
        case hwd30 => rfl
        case hyd30 => intro W hW; go_simp; with_reducible rfl
        simp only [Act.put, List.setIfInBounds_toArray, List.set_cons_zero, List.set_cons_succ]
        refine ext_take (i := 31) (oi := ?oid31) (v := ?vd31) ?hid31 (by kernel_rfl) (by kernel_rfl) (by kernel_rfl) hQ ?hwd31 ?hyd31 ?restd31
        case hid31 => simp only [List.getElem?_toArray, List.getElem?_cons_zero, List.getElem?_cons_succ]; rfl
        case hwd31 => rfl
        case hyd31 => intro W hW; go_simp; with_reducible rfl
        simp only [Act.put, List.setIfInBounds_toArray, List.set_cons_zero, List.set_cons_succ]
        refine wpAnyH_done (by kernel_rfl) ?_ _
        simp only [NoP]
        go_wp2_with fail
        go_ret
        exact ⟨by rw [HE.out]; rfl, hB⟩
      have hmb' : decide ((b : Int) ≤ (m : Int)) = false := by simp; omega
      have HE := Lib.hid (show ordB 0 L = ordB b (L.drop (j + 1)) from by rw [HH.out, ordB, decide_eq_true (by simp only; omega)]; rfl)
      go_wp2_with fail
      refine nop_wp (ext_start (by kernel_rfl) calm_nop (fun hQ => ?_))
      replace hB := hB.drew
      replace c0 : wr.drew.cell? _ = _ := c0
      replace hab : ad.block < wr.drew.heap.size := hab
      replace hp : wr.drew.cell? _ = _ := hp
      generalize wr.drew = x at *
      have X0 : ∀ W, Ext x W → W.cell? (ad.add (j * 2)) = some (.int .u8 (b : Int)) := fun W h => (Below.cell h (by rw [block_of_add]; exact hab)).trans c0
      have X1 : ∀ W, Ext x W → W.cell? (ad.add (jp * 2)) = some (.int .u8 (m : Int)) := fun W h => (Below.cell h (by rw [block_of_add]; exact hab)).trans hp
      refine ext_take (i := 0) (oi := ?oie0) (v := ?ve0) ?hie0 (by kernel_rfl) (by kernel_rfl) (by kernel_rfl) hQ ?hwe0 ?hye0 ?reste0
      case hie0 => simp only [List.getElem?_toArray, List.getElem?_cons_zero]; rfl
      case hwe0 => rfl
      case hye0 => intro W hW; go_simp; with_reducible rfl
      simp only [Act.put, List.setIfInBounds_toArray, List.set_cons_zero, List.set_cons_succ]
      refine ext_take (i := 1) (oi := ?oie1) (v := ?ve1) ?hie1 (by kernel_rfl) (by kernel_rfl) (by kernel_rfl) hQ ?hwe1 ?hye1 ?reste1
      case hie1 => simp only [List.getElem?_toArray, List.getElem?_cons_zero, List.getElem?_cons_succ]; rfl
      case hwe1 => rfl
      case hye1 => intro W hW; go_simp; with_reducible rfl
      simp only [Act.put, List.setIfInBounds_toArray, List.set_cons_zero, List.set_cons_succ]
      refine ext_take (i := 2) (oi := ?oie2) (v := ?ve2) ?hie2 (by kernel_rfl) (by kernel_rfl) (by kernel_rfl) hQ ?hwe2 ?hye2 ?reste2
      case hie2 => simp only [List.getElem?_toArray, List.getElem?_cons_zero, List.getElem?_cons_succ]; rfl
      case hwe2 => rfl
      case hye2 => intro W hW; go_simp; with_reducible rfl
      simp only [Act.put, List.setIfInBounds_toArray, List.set_cons_zero, List.set_cons_succ]
      refine ext_take (i := 3) (oi := ?oie3) (v := ?ve3) ?hie3 (by kernel_rfl) (by kernel_rfl) (by kernel_rfl) hQ ?hwe3 ?hye3 ?reste3
      case hie3 => simp only [List.getElem?_toArray, List.getElem?_cons_zero, List.getElem?_cons_succ]; rfl
      case hwe3 => rfl
      case hye3 => intro W hW; go_simp; with_reducible rfl
      simp only [Act.put, List.setIfInBounds_toArray, List.set_cons_zero, List.set_cons_succ]
      refine ext_take (i := 4) (oi := ?oie4) (v := ?ve4) ?hie4 (by kernel_rfl) (by kernel_rfl) (by kernel_rfl) hQ ?hwe4 ?hye4 ?reste4
      case hie4 => simp only [List.getElem?_toArray, List.getElem?_cons_zero, List.getElem?_cons_succ]; rfl
      case hwe4 => rfl
      case hye4 => intro W hW; go_simp; with_reducible rfl
      simp only [Act.put, List.setIfInBounds_toArray, List.set_cons_zero, List.set_cons_succ]
      refine ext_take (i := 5) (oi := ?oie5) (v := ?ve5) ?hie5 (by kernel_rfl) (by kernel_rfl) (by kernel_rfl) hQ ?hwe5 ?hye5 ?reste5
      case hie5 => simp only [List.getElem?_toArray, List.getElem?_cons_zero, List.getElem?_cons_succ]; rfl
      case hwe5 => rfl
      case hye5 => intro W hW; go_simp; with_reducible rfl
      simp only [Act.put, List.setIfInBounds_toArray, List.set_cons_zero, List.set_cons_succ]
      refine ext_take (i := 6) (oi := ?oie6) (v := ?ve6) ?hie6 (by kernel_rfl) (by kernel_rfl) (by kernel_rfl) hQ ?hwe6 ?hye6 ?reste6
      case hie6 => simp only [List.getElem?_toArray, List.getElem?_cons_zero, List.getElem?_cons_succ]; rfl
      case hwe6 => rfl
      case hye6 => intro W hW; go_simp; with_reducible rfl
      simp only [Act.put, List.setIfInBounds_toArray, List.set_cons_zero, List.set_cons_succ]
      refine ext_take (i := 7) (oi := ?oie7) (v := ?ve7) ?hie7 (by kernel_rfl) (by kernel_rfl) (by kernel_rfl) hQ ?hwe7 ?hye7 ?reste7
      case hie7 => simp only [List.getElem?_toArray, List.getElem?_cons_zero, List.getElem?_cons_succ]; rfl
      case hwe7 => rfl
      case hye7 => intro W hW; go_simp; with_reducible rfl
      simp only [Act.put, List.setIfInBounds_toArray, List.set_cons_zero, List.set_cons_succ]
      refine ext_take (i := 8) (oi := ?oie8) (v := ?ve8) ?hie8 (by kernel_rfl) (by kernel_rfl) (by kernel_rfl) hQ ?hwe8 ?hye8 ?reste8
      case hie8 => simp only [List.getElem?_toArray, List.getElem?_cons_zero, List.getElem?_cons_succ]; rfl
      case hwe8 => rfl
      case hye8 => intro W hW; go_simp; with_reducible rfl
      simp only [Act.put, List.setIfInBounds_toArray, List.set_cons_zero, List.set_cons_succ]
      refine ext_take (i := 9) (oi := ?oie9) (v := ?ve9) ?hie9 (by kernel_rfl) (by kernel_rfl) (by kernel_rfl) hQ ?hwe9 ?hye9 ?reste9
      case hie9 => simp only [List.getElem?_toArray, List.getElem?_cons_zero, List.getElem?_cons_succ]; rfl
      case hwe9 => rfl
      case hye9 => intro W hW; go_simp; with_reducible rfl
      simp only [Act.put, List.setIfInBounds_toArray, List.set_cons_zero, List.set_cons_succ]
      refine ext_take (i := 10) (oi := ?oie10) (v := ?ve10) ?hie10 (by kernel_rfl) (by kernel_rfl) (by kernel_rfl) hQ ?hwe10 ?hye10 ?reste10
      case hie10 => simp only [List.getElem?_toArray, List.getElem?_cons_zero, List.getElem?_cons_succ]; rfl
      case hwe10 => rfl
      case hye10 => intro W hW; go_simp; with_reducible rfl
      simp only [Act.put, List.setIfInBounds_toArray, List.set_cons_zero, List.set_cons_succ]
      refine ext_take (i := 11) (oi := ?oie11) (v := ?ve11) ?hie11 (by kernel_rfl) (by kernel_rfl) (by kernel_rfl) hQ ?hwe11 ?hye11 ?reste11
      case hie11 => simp only [List.getElem?_toArray, List.getElem?_cons_zero, List.getElem?_cons_succ]; rfl
      case hwe11 => rfl
      case hye11 => intro W hW; go_simp; with_reducible rfl
      simp only [Act.put, List.setIfInBounds_toArray, List.set_cons_zero, List.set_cons_succ]
      refine ext_take (i := 12) (oi := ?oie12) (v := ?ve12) ?hie12 (by kernel_rfl) (by kernel_rfl) (by kernel_rfl) hQ ?hwe12 ?hye12 ?reste12
      case hie12 => simp only [List.getElem?_toArray, List.getElem?_cons_zero, List.getElem?_cons_succ]; rfl
      case hwe12 => rfl
      case hye12 => intro W hW; go_simp; with_reducible rfl
      simp only [Act.put, List.setIfInBounds_toArray, List.set_cons_zero, List.set_cons_succ]
      refine ext_take (i := 13) (oi := ?oie13) (v := ?ve13) ?hie13 (by kernel_rfl) (by kernel_rfl) (by kernel_rfl) hQ ?hwe13 ?hye13 ?reste13
      case hie13 => simp only [List.getElem?_toArray, List.getElem?_cons_zero, List.getElem?_cons_succ]; rfl
      case hwe13 => rfl
      case hye13 => intro W hW; go_simp; with_reducible rfl
      simp only [Act.put, List.setIfInBounds_toArray, List.set_cons_zero, List.set_cons_succ]
      refine ext_take (i := 14) (oi := ?oie14) (v := ?ve14) ?hie14 (by kernel_rfl) (by kernel_rfl) (by kernel_rfl) hQ ?hwe14 ?hye14 ?reste14
      case hie14 => simp only [List.getElem?_toArray, List.getElem?_cons_zero, List.getElem?_cons_succ]; rfl
      case hwe14 => rfl
      case hye14 => intro W hW; go_simp; with_reducible rfl
      simp only [Act.put, List.setIfInBounds_toArray, List.set_cons_zero, List.set_cons_succ]
      refine ext_take (i := 15) (oi := ?oie15) (v := ?ve15) ?hie15 (by kernel_rfl) (by kernel_rfl) (by kernel_rfl) hQ ?hwe15 ?hye15 ?reste15
      case hie15 => simp only [List.getElem?_toArray, List.getElem?_cons_zero, List.getElem?_cons_succ]; rfl
      case hwe15 => rfl
      case hye15 => intro W hW; go_simp; with_reducible rfl
      simp only [Act.put, List.setIfInBounds_toArray, List.set_cons_zero, List.set_cons_succ]
      refine ext_take (i := 16) (oi := ?oie16) (v := ?ve16) ?hie16 (by kernel_rfl) (by kernel_rfl) (by kernel_rfl) hQ ?hwe16 ?hye16 ?reste16
      case hie16 => simp only [List.getElem?_toArray, List.getElem?_cons_zero, List.getElem?_cons_succ]; rfl
      case hwe16 => rfl
      case hye16 => intro W hW; go_simp; with_reducible rfl
      simp only [Act.put, List.setIfInBounds_toArray, List.set_cons_zero, List.set_cons_succ]
      refine ext_take (i := 17) (oi := ?oie17) (v := ?ve17) ?hie17 (by kernel_rfl) (by kernel_rfl) (by kernel_rfl) hQ ?hwe17 ?hye17 ?reste17
      case hie17 => simp only [List.getElem?_toArray, List.getElem?_cons_zero, List.getElem?_cons_succ]; rfl
      case hwe17 => rfl
      case hye17 => intro W hW; go_simp; with_reducible rfl
      simp only [Act.put, List.setIfInBounds_toArray, List.set_cons_zero, List.set_cons_succ]
      refine ext_take (i := 18) (oi := ?oie18) (v := ?ve18) ?hie18 (by kernel_rfl) (by kernel_rfl) (by kernel_rfl) hQ ?hwe18 ?hye18 ?reste18
      case hie18 => simp only [List.getElem?_toArray, List.getElem?_cons_zero, List.getElem?_cons_succ]; rfl
      case hwe18 => rfl
      case hye18 => intro W hW; go_simp; with_reducible rfl
      simp only [Act.put, List.setIfInBounds_toArray, List.set_cons_zero, List.set_cons_succ]
      refine ext_take (i := 19) (oi := ?oie19) (v := ?ve19) ?hie19 (by kernel_rfl) (by kernel_rfl) (by kernel_rfl) hQ ?hwe19 ?hye19 ?reste19
      case hie19 => simp only [List.getElem?_toArray, List.getElem?_cons_zero, List.getElem?_cons_succ]; rfl
      case hwe19 => rfl
      case hye19 => intro W hW; go_simp; with_reducible rfl
      simp only [Act.put, List.setIfInBounds_toArray, List.set_cons_zero, List.set_cons_succ]
      refine ext_take (i := 20) (oi := ?oie20) (v := ?ve20) ?hie20 (by kernel_rfl) (by kernel_rfl) (by kernel_rfl) hQ ?hwe20 ?hye20 ?reste20
      case hie20 => simp only [List.getElem?_toArray, List.getElem?_cons_zero, List.getElem?_cons_succ]; rfl
      case hwe20 => rfl
      case hye20 => intro W hW; go_simp; with_reducible rfl
      simp only [Act.put, List.setIfInBounds_toArray, List.set_cons_zero, List.set_cons_succ]
      refine ext_take (i := 21) (oi := ?oie21) (v := ?ve21) ?hie21 (by kernel_rfl) (by kernel_rfl) (by kernel_rfl) hQ ?hwe21 ?hye21 ?reste21
      case hie21 => simp only [List.getElem?_toArray, List.getElem?_cons_zero, List.getElem?_cons_succ]; rfl
      case hwe21 => rfl
      case hye21 => intro W hW; go_simp; with_reducible rfl
      simp only [Act.put, List.setIfInBounds_toArray, List.set_cons_zero, List.set_cons_succ]
      refine ext_take (i := 22) (oi := ?oie22) (v := ?ve22) ?hie22 (by kernel_rfl) (by kernel_rfl) (by kernel_rfl) hQ ?hwe22 ?hye22 ?reste22
      case hie22 => simp only [List.getElem?_toArray, List.getElem?_cons_zero, List.getElem?_cons_succ]; rfl
      case hwe22 => rfl
      case hye22 => intro W hW; go_simp; with_reducible rfl
      simp only [Act.put, List.setIfInBounds_toArray, List.set_cons_zero, List.set_cons_succ]
      refine ext_take (i := 23) (oi := ?oie23) (v := ?ve23) ?hie23 (by kernel_rfl) (by kernel_rfl) (by kernel_rfl) hQ ?hwe23 ?hye23 ?reste23
      case hie23 => simp only [List.getElem?_toArray, List.getElem?_cons_zero, List.getElem?_cons_succ]; rfl
      case hwe23 => rfl
      case hye23 => intro W hW; go_simp; with_reducible rfl
      simp only [Act.put, List.setIfInBounds_toArray, List.set_cons_zero, List.set_cons_succ]
      refine ext_take (i := 24) (oi := ?oie24) (v := ?ve24) ?hie24 (by kernel_rfl) (by kernel_rfl) (by kernel_rfl) hQ ?hwe24 ?hye24 ?reste24
      case hie24 => simp only [List.getElem?_toArray, List.getElem?_cons_zero, List.getElem?_cons_succ]; rfl
      case hwe24 => rfl
      case hye24 => intro W hW; go_simp; with_reducible rfl
      simp only [Act.put, List.setIfInBounds_toArray, List.set_cons_zero, List.set_cons_succ]
      refine ext_take (i := 25) (oi := ?oie25) (v := ?ve25) ?hie25 (by kernel_rfl) (by kernel_rfl) (by kernel_rfl) hQ ?hwe25 ?hye25 ?reste25
      case hie25 => simp only [List.getElem?_toArray, List.getElem?_cons_zero, List.getElem?_cons_succ]; rfl
      case hwe25 => rfl
      case hye25 => intro W hW; go_simp; with_reducible rfl
      simp only [Act.put, List.setIfInBounds_toArray, List.set_cons_zero, List.set_cons_succ]
      refine ext_take (i := 26) (oi := ?oie26) (v := ?ve26) ?hie26 (by kernel_rfl) (by kernel_rfl) (by kernel_rfl) hQ ?hwe26 ?hye26 ?reste26
      case hie26 => simp only [List.getElem?_toArray, List.getElem?_cons_zero, List.getElem?_cons_succ]; rfl
      case hwe26 => rfl
      case hye26 => intro W hW; go_simp; with_reducible rfl
      simp only [Act.put, List.setIfInBounds_toArray, List.set_cons_zero, List.set_cons_succ]
      refine ext_take (i := 27) (oi := ?oie27) (v := ?ve27) ?hie27 (by kernel_rfl) (by kernel_rfl) (by kernel_rfl) hQ ?hwe27 ?hye27 ?reste27
      case hie27 => simp only [List.getElem?_toArray, List.getElem?_cons_zero, List.getElem?_cons_succ]; rfl
      case hwe27 => rfl
      case hye27 => intro W hW; go_simp; with_reducible rfl
      simp only [Act.put, List.setIfInBounds_toArray, List.set_cons_zero, List.set_cons_succ]
      refine ext_take (i := 28) (oi := ?oie28) (v := ?ve28) ?hie28 (by kernel_rfl) (by kernel_rfl) (by kernel_rfl) hQ ?hwe28 ?hye28 ?reste28
      case hie28 => simp only [List.getElem?_toArray, List.getElem?_cons_zero, List.getElem?_cons_succ]; rfl
      case hwe28 => rfl
      case hye28 => intro W hW; go_simp; with_reducible rfl
      simp only [Act.put, List.setIfInBounds_toArray, List.set_cons_zero, List.set_cons_succ]
      refine ext_take (i := 29) (oi := ?oie29) (v := ?ve29) ?hie29 (by kernel_rfl) (by kernel_rfl) (by kernel_rfl) hQ ?hwe29 ?hye29 ?reste29
      case hie29 => simp only [List.getElem?_toArray, List.getElem?_cons_zero, List.getElem?_cons_succ]; rfl
      case hwe29 => rfl
      case hye29 => intro W hW; go_simp; with_reducible rfl
      simp only [Act.put, List.setIfInBounds_toArray, List.set_cons_zero, List.set_cons_succ]
      refine ext_take (i := 30) (oi := ?oie30) (v := ?ve30) ?hie30 (by kernel_rfl) (by kernel_rfl) (by kernel_rfl) hQ ?hwe30 ?hye30 ?reste30
      case hie30 => simp only [List.getElem?_toArray, List.getElem?_cons_zero, List.getElem?_cons_succ]; rfl
      case hwe30 => rfl
      case hye30 => intro W hW; go_simp; with_reducible rfl
      simp only [Act.put, List.setIfInBounds_toArray, List.set_cons_zero, List.set_cons_succ]
      refine ext_take (i := 31) (oi := ?oie31) (v := ?ve31) ?hie31 (by kernel_rfl) (by kernel_rfl) (by kernel_rfl) hQ ?hwe31 ?hye31 ?reste31
      case hie31 => simp only [List.getElem?_toArray, List.getElem?_cons_zero, List.getElem?_cons_succ]; rfl
      case hwe31 => rfl
      case hye31 => intro W hW; go_simp; with_reducible rfl
      simp only [Act.put, List.setIfInBounds_toArray, List.set_cons_zero, List.set_cons_succ]
      refine wpAnyH_done (by kernel_rfl) ?_ _
      simp only [NoP]
      go_wp2_with fail
      go_roundw
      case rel => exact ⟨j + 1, by omega, by go_num, ⟨by rw [HNX.out]; exact HE.out, by rw [HNX.out]; omega, by rw [HNX.out]; omega⟩, hB⟩
      case measure => simp [intOf]; omega
    · have HE := Lib.hid (show ordB 0 L = true from by rw [hl, List.drop_of_length_le (by rw [HL.out]; omega)]; rfl)
      have hn7 : (n : Int) ≤ 7 := by omega
      clear hl
      go_wp2_with fail
      go_ret
      exact ⟨by rw [HE.out]; simp, hB⟩

end Go.Proofs.Yteaaiacgebikpaa
