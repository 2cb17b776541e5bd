/- Contracts and laws of a chapter that its statement of names leans on. Each states its conditions. -/
import Derived.Test.YtldaijkcmnnjpaaScr3
import Derived.Test.YtldaijkcmnnjpaaRet2
import Derived.Lib.BufferMore
namespace Go.Proofs.Ytldaijkcmnnjpaa
open Go.RowKit Wire
set_option linter.unusedVariables false
theorem scrT : AggT Try.prog 44 5 := ⟨⟨_, Try.underlying44, rfl⟩, by kernel_rfl⟩
theorem getI {w W : World} {B : Nat} {ad : Addr} {j : Nat} {z : Int} (hc : w.cell? (ad.add j) = some (.int .i64 z)) (hb : ad.block < B) (h : Below B w W) : W.cell? (ad.add j) = some (.int .i64 z) :=
  (h.cell (by rw [block_of_add]; exact hb)).trans hc
theorem eq_upto {l m : List Int} {j : Nat} {x y : Int} (h1 : l[j]? = some x) (h2 : m[j]? = some y) (h : l.take j = m.take j) : x = y → l.take (j + 1) = m.take (j + 1) := by
  intro e; rw [take_succ_of h1, take_succ_of h2, h, e]
theorem ne_at {l m : List Int} {j : Nat} {x y : Int} (h1 : l[j]? = some x) (h2 : m[j]? = some y) (h : x ≠ y) : l ≠ m := by
  rintro rfl; rw [h1] at h2; injection h2 with h2; exact h h2
set_option maxRecDepth 100000 in
set_option maxHeartbeats 3200000 in
theorem sameInts_any (A : Option Addr) (n c : Nat) (l : List Int) (A2 : Option Addr) (m d : Nat) (l2 : List Int) (w : World) (hr : RdI w w.heap.size A n l) (hs : RdI w w.heap.size A2 m l2) (hn : n ≤ 9223372036854775807) :
    Calls Try.prog 64 #[.slice A n c, .slice A2 m d] w fun e w' => e = .returned (.bool (decide (l = l2))) ∧ Below w.heap.size w w' := by
  have HL := Lib.hid hr.lenI
  have HM := Lib.hid hs.lenI
  have HR := Lib.hid hr
  have HS := Lib.hid hs
  clear hr hs
  by_cases hnm : n = m
  rotate_left
  · have HD := Lib.hid (show decide (l = l2) = false from by rw [decide_eq_false_iff_not]; rintro rfl; exact hnm (HL.out.symm.trans HM.out))
    have dn : ((n : Int) != (m : Int)) = true := by rw [bne_iff_ne]; omega
    go_enter Try.func64, Try.ntmps64
    go_wp2_with fail
    go_ret
    exact ⟨by rw [HD.out]; rfl, Below.refl _ _⟩
  subst hnm
  go_enter Try.func64, Try.ntmps64
  go_wp2_with fail
  go_loopw [5] (fun i wr => ∃ j : Nat, j ≤ n ∧ i = .int .i64 (j : Int) ∧ l.take j = l2.take j ∧ Below w.heap.size w wr) (fun i _ => n - (intOf i).toNat)
  case atStart => exact ⟨0, by omega, rfl, by simp, Below.refl _ _⟩
  case round =>
    obtain ⟨j, hj, rfl, ht, hB⟩ := hrel
    have HT := Lib.hid ht
    clear ht
    by_cases hlt : j < n
    · obtain ⟨ad, z, hA, hb, hz, hc⟩ := (HR.out.below hB).int hlt
      obtain ⟨ad2, y, hA2, hb2, hy, hc2⟩ := (HS.out.below hB).int hlt
      have HZ := Lib.hid (And.intro hz hy)
      subst hA hA2
      clear hz hy
      go_wp2_with fail
      refine nop_wp (ext_start (by kernel_rfl) calm_nop (fun hQ => ?_))
      have hB2 := hB.drew
      have hd1 : wr.drew.cell? (ad.add j) = some (.int .i64 z) := hc
      have hd2 : wr.drew.cell? (ad2.add j) = some (.int .i64 y) := hc2
      have X1 : ∀ W, Ext wr.drew W → W.cell? (ad.add j) = some (.int .i64 z) := fun W h => getI hd1 hb (Below.mono h hB2.size)
      have X2 : ∀ W, Ext wr.drew W → W.cell? (ad2.add j) = some (.int .i64 y) := fun W h => getI hd2 hb2 (Below.mono h hB2.size)
      have j0 : (0 : Int) ≤ (j : Int) := by omega
      have j1 : (j : Int) < (n : Int) := by omega
      clear hc hc2 hB hb hb2 hd1 hd2
      generalize wr.drew = x at *
      refine ext_take (i := 0) (oi := ?oia0) (v := ?va0) ?hia0 (by kernel_rfl) (by kernel_rfl) (by kernel_rfl) hQ ?hwa0 ?hya0 ?resta0
      case hia0 => simp only [List.getElem?_toArray, List.getElem?_cons_zero]; rfl
      case hwa0 => rfl
      case hya0 => intro W hW; go_simp; with_reducible rfl
      simp only [Act.put, List.setIfInBounds_toArray, List.set_cons_zero, List.set_cons_succ]
      refine ext_take (i := 1) (oi := ?oia1) (v := ?va1) ?hia1 (by kernel_rfl) (by kernel_rfl) (by kernel_rfl) hQ ?hwa1 ?hya1 ?resta1
      case hia1 => simp only [List.getElem?_toArray, List.getElem?_cons_zero, List.getElem?_cons_succ]; rfl
      case hwa1 => rfl
      case hya1 => intro W hW; go_simp; with_reducible rfl
      simp only [Act.put, List.setIfInBounds_toArray, List.set_cons_zero, List.set_cons_succ]
      refine ext_take (i := 2) (oi := ?oia2) (v := ?va2) ?hia2 (by kernel_rfl) (by kernel_rfl) (by kernel_rfl) hQ ?hwa2 ?hya2 ?resta2
      case hia2 => simp only [List.getElem?_toArray, List.getElem?_cons_zero, List.getElem?_cons_succ]; rfl
      case hwa2 => rfl
      case hya2 => intro W hW; go_simp; with_reducible rfl
      simp only [Act.put, List.setIfInBounds_toArray, List.set_cons_zero, List.set_cons_succ]
      refine ext_take (i := 3) (oi := ?oia3) (v := ?va3) ?hia3 (by kernel_rfl) (by kernel_rfl) (by kernel_rfl) hQ ?hwa3 ?hya3 ?resta3
      case hia3 => simp only [List.getElem?_toArray, List.getElem?_cons_zero, List.getElem?_cons_succ]; rfl
      case hwa3 => rfl
      case hya3 => intro W hW; go_simp; with_reducible rfl
      simp only [Act.put, List.setIfInBounds_toArray, List.set_cons_zero, List.set_cons_succ]
      refine ext_take (i := 4) (oi := ?oia4) (v := ?va4) ?hia4 (by kernel_rfl) (by kernel_rfl) (by kernel_rfl) hQ ?hwa4 ?hya4 ?resta4
      case hia4 => simp only [List.getElem?_toArray, List.getElem?_cons_zero, List.getElem?_cons_succ]; rfl
      case hwa4 => rfl
      case hya4 => intro W hW; go_simp; with_reducible rfl
      simp only [Act.put, List.setIfInBounds_toArray, List.set_cons_zero, List.set_cons_succ]
      refine ext_take (i := 5) (oi := ?oia5) (v := ?va5) ?hia5 (by kernel_rfl) (by kernel_rfl) (by kernel_rfl) hQ ?hwa5 ?hya5 ?resta5
      case hia5 => simp only [List.getElem?_toArray, List.getElem?_cons_zero, List.getElem?_cons_succ]; rfl
      case hwa5 => rfl
      case hya5 => intro W hW; go_simp; with_reducible rfl
      simp only [Act.put, List.setIfInBounds_toArray, List.set_cons_zero, List.set_cons_succ]
      refine ext_take (i := 6) (oi := ?oia6) (v := ?va6) ?hia6 (by kernel_rfl) (by kernel_rfl) (by kernel_rfl) hQ ?hwa6 ?hya6 ?resta6
      case hia6 => simp only [List.getElem?_toArray, List.getElem?_cons_zero, List.getElem?_cons_succ]; rfl
      case hwa6 => rfl
      case hya6 => intro W hW; go_simp; with_reducible rfl
      simp only [Act.put, List.setIfInBounds_toArray, List.set_cons_zero, List.set_cons_succ]
      refine ext_take (i := 7) (oi := ?oia7) (v := ?va7) ?hia7 (by kernel_rfl) (by kernel_rfl) (by kernel_rfl) hQ ?hwa7 ?hya7 ?resta7
      case hia7 => simp only [List.getElem?_toArray, List.getElem?_cons_zero, List.getElem?_cons_succ]; rfl
      case hwa7 => rfl
      case hya7 => intro W hW; go_simp; with_reducible rfl
      simp only [Act.put, List.setIfInBounds_toArray, List.set_cons_zero, List.set_cons_succ]
      refine ext_take (i := 8) (oi := ?oia8) (v := ?va8) ?hia8 (by kernel_rfl) (by kernel_rfl) (by kernel_rfl) hQ ?hwa8 ?hya8 ?resta8
      case hia8 => simp only [List.getElem?_toArray, List.getElem?_cons_zero, List.getElem?_cons_succ]; rfl
      case hwa8 => rfl
      case hya8 => intro W hW; go_simp; with_reducible rfl
      simp only [Act.put, List.setIfInBounds_toArray, List.set_cons_zero, List.set_cons_succ]
      refine wpAnyH_done (by kernel_rfl) ?_ _

      simp only [NoP]
      clear X1 X2
      by_cases hzy : z = y
      · have HN := Lib.hid (eq_upto HZ.out.1 HZ.out.2 HT.out hzy)
        have dz : (z != y) = false := by rw [hzy]; simp
        have HE := Lib.hid hzy
        clear hzy
        go_wp2_with fail
        go_roundw
        case rel => exact ⟨j + 1, by omega, by go_num, HN.out, hB2⟩
        case measure => simp [intOf]; omega
      · have HN := Lib.hid (show decide (l = l2) = false from by rw [decide_eq_false_iff_not]; exact ne_at HZ.out.1 HZ.out.2 hzy)
        have dz : (z != y) = true := by rw [bne_iff_ne]; exact hzy
        go_wp2_with fail
        go_ret
        exact ⟨by rw [HN.out]; rfl, hB2⟩
    · have HD := Lib.hid (show decide (l = l2) = true from by
        rw [decide_eq_true_eq, ← List.take_of_length_le (l := l) (i := j) (by rw [HL.out]; omega), HT.out, List.take_of_length_le (by rw [HM.out]; omega)])
      clear HT
      go_wp2_with fail
      go_ret
      exact ⟨by rw [HD.out]; rfl, hB⟩
/-- Whether two scripts are alike. -/
def smB (st sk hp rt : Int) (l : List Int) (st2 sk2 hp2 rt2 : Int) (l2 : List Int) : Bool := decide (st = st2) && (decide (sk = sk2) && (decide (hp = hp2) && (decide (rt = rt2) && decide (l = l2))))
set_option maxRecDepth 100000 in
set_option maxHeartbeats 3200000 in
theorem same11_any (A : Option Addr) (n c : Nat) (l : List Int) (st sk hp rt : Int) (A2 : Option Addr) (n2 d : Nat) (l2 : List Int) (st2 sk2 hp2 rt2 : Int) (w : World) (hr : RdI w w.heap.size A n l) (hs : RdI w w.heap.size A2 n2 l2) (hn : n ≤ 9223372036854775807) :
    Calls Try.prog 22 #[scr A n c st sk hp rt, scr A2 n2 d st2 sk2 hp2 rt2] w fun e w' => e = .returned (.bool (smB st sk hp rt l st2 sk2 hp2 rt2 l2)) ∧ Below w.heap.size w w' := by
  have hB1 := (Below.refl w.heap.size w).alloc (Nat.le_refl _) (.cells #[.slice A n c, .int .i64 st, .int .i64 sk, .int .i64 hp, .int .i64 rt] 44)
  have hk1 := (Blk.new w 44 #[.slice A n c, .int .i64 st, .int .i64 sk, .int .i64 hp, .int .i64 rt]).alloc (.cells #[.slice A2 n2 d, .int .i64 st2, .int .i64 sk2, .int .i64 hp2, .int .i64 rt2] 44)
  have hB2 := hB1.alloc hB1.size (.cells #[.slice A2 n2 d, .int .i64 st2, .int .i64 sk2, .int .i64 hp2, .int .i64 rt2] 44)
  have hq1 := Blk.new (w.alloc (.cells #[.slice A n c, .int .i64 st, .int .i64 sk, .int .i64 hp, .int .i64 rt] 44)) 44 #[.slice A2 n2 d, .int .i64 st2, .int .i64 sk2, .int .i64 hp2, .int .i64 rt2]
  rw [alloc_size] at hq1
  have HR := Lib.hid (hr.mv hB2)
  have HS := Lib.hid (hs.mv hB2)
  clear hr hs
  by_cases g0 : st = st2
  rotate_left
  · have e0 : (st == st2) = false := by rw [beq_eq_false_iff_ne]; exact g0
    have HD := Lib.hid (show smB st sk hp rt l st2 sk2 hp2 rt2 l2 = false from by simp [smB, g0])
    clear g0
    go_enter Try.func22, Try.ntmps22
    go_wp2_with fail
    go_ret
    exact ⟨by rw [HD.out]; rfl, hB2⟩

  subst g0
  by_cases g1 : sk = sk2
  rotate_left
  · have e1 : (sk == sk2) = false := by rw [beq_eq_false_iff_ne]; exact g1
    have HD := Lib.hid (show smB st sk hp rt l st sk2 hp2 rt2 l2 = false from by simp [smB, g1])
    clear g1
    go_enter Try.func22, Try.ntmps22
    go_wp2_with fail
    go_ret
    exact ⟨by rw [HD.out]; rfl, hB2⟩

  subst g1
  by_cases g2 : hp = hp2
  rotate_left
  · have e2 : (hp == hp2) = false := by rw [beq_eq_false_iff_ne]; exact g2
    have HD := Lib.hid (show smB st sk hp rt l st sk hp2 rt2 l2 = false from by simp [smB, g2])
    clear g2
    go_enter Try.func22, Try.ntmps22
    go_wp2_with fail
    go_ret
    exact ⟨by rw [HD.out]; rfl, hB2⟩

  subst g2
  by_cases g3 : rt = rt2
  rotate_left
  · have e3 : (rt == rt2) = false := by rw [beq_eq_false_iff_ne]; exact g3
    have HD := Lib.hid (show smB st sk hp rt l st sk hp rt2 l2 = false from by simp [smB, g3])
    clear g3
    go_enter Try.func22, Try.ntmps22
    go_wp2_with fail
    go_ret
    exact ⟨by rw [HD.out]; rfl, hB2⟩

  subst g3
  have HD := Lib.hid (show smB st sk hp rt l st sk hp rt l2 = decide (l = l2) from by simp [smB])
  go_enter Try.func22, Try.ntmps22
  go_wp2_with fail
  refine (sameInts_any A n c l A2 n2 d l2 _ HR.out HS.out hn).mono ?_
  rintro e w5 ⟨rfl, b⟩
  go_wp2_with fail
  go_ret
  exact ⟨by rw [HD.out]; rfl, hB2.trans (b.mono hB2.size)⟩

end Go.Proofs.Ytldaijkcmnnjpaa
