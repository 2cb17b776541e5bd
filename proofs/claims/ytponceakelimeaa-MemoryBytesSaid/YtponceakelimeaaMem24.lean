/- The contracts of the reference's Find, Bytes and Word. Each states its conditions. -/
import Derived.Test.YtponceakelimeaaMem23
import Derived.Test.YtponceakelimeaaMemoryReads
namespace Go.Proofs.Ytponceakelimeaa
open Go.RowKit Wire
set_option linter.unusedVariables false

theorem RdR.ones {w : World} {A : Option Addr} {n : Nat} {L : List (Nat × List UInt8)} (h : RdR w A n L) : ∃ vs : List (List Value), vs.length = n ∧ (∀ u ∈ vs, u.length = 2) ∧ (∀ u ∈ vs.flatten, u.oneCell' = true) ∧ Reads w w.heap.size 2 A n vs.flatten ∧
    ∀ (k : Nat) (p : Nat × List UInt8), L[k]? = some p → ∃ Ai ci, vs[k]? = some [.int .u64 (p.1 : Int), .slice Ai p.2.length ci] ∧ (p.2.length ≤ ci ∧ ci ≤ 9223372036854775807) ∧ Rb w Ai p.2.length p.2 ∧ p.1 < 18446744073709551616 := by
  obtain ⟨h1, vs, h2, h3, h4, h5⟩ := h
  refine ⟨vs, h2, h3, fun u hu => ?_, h4, h5⟩
  obtain ⟨u1, hu1, hu2⟩ := List.mem_flatten.1 hu
  obtain ⟨k, hk, rfl⟩ := List.getElem_of_mem hu1
  obtain ⟨Ai, ci, g1, _⟩ := h5 k L[k] (List.getElem?_eq_getElem (by omega))
  rw [List.getElem?_eq_getElem hk] at g1
  injection g1 with g1
  rw [g1] at hu2
  simp at hu2
  rcases hu2 with rfl | rfl <;> rfl
/-- A region ahead of others, in a row of the call's own. -/
theorem RdR.cons_ {w : World} {base b n ch c' : Nat} {A' Ah : Option Addr} {l0 : List UInt8} {L : List (Nat × List UInt8)} {vs : List (List Value)} (hLn : L.length = n) (h2 : vs.length = n) (h3 : ∀ u ∈ vs, u.length = 2)
    (h5 : ∀ (k : Nat) (p : Nat × List UInt8), L[k]? = some p → ∃ Ai ci, vs[k]? = some [.int .u64 (p.1 : Int), .slice Ai p.2.length ci] ∧ (p.2.length ≤ ci ∧ ci ≤ 9223372036854775807) ∧ Rb w Ai p.2.length p.2 ∧ p.1 < 18446744073709551616)
    (hr : Rb w Ah l0.length l0) (hc : l0.length ≤ ch ∧ ch ≤ 9223372036854775807) (hb : b < 18446744073709551616)
    (ho : w.ownsRow base 25 2 (.slice A' (1 + n) c') (1 + n) ([.int .u64 (b : Int), .slice Ah l0.length ch] ++ vs.flatten)) : RdR w A' (1 + n) ((b, l0) :: L) := by
  refine ⟨by simp [hLn]; omega, [.int .u64 (b : Int), .slice Ah l0.length ch] :: vs, by simp [h2]; omega, fun u hu => ?_, by simpa using Reads.of_own ho, fun k p hp => ?_⟩
  · rcases List.mem_cons.1 hu with rfl | hu
    · rfl
    · exact h3 u hu
  · rcases k with _ | k
    · simp at hp
      subst hp
      exact ⟨Ah, ch, rfl, hc, hr, hb⟩
    · simp at hp
      obtain ⟨Ai, ci, g1, g2⟩ := h5 k p hp
      exact ⟨Ai, ci, by simpa using g1, g2⟩
theorem fd_skip {at_ n : Nat} {L : List (Nat × List UInt8)} {j : Nat} {p : Nat × List UInt8} (hz : L[j]? = some p) (h : hasB at_ n p = false) : fdR at_ n (L.drop j) = fdR at_ n (L.drop (j + 1)) := by
  rw [drop_get hz, fdR, if_neg (by simp [h])]
theorem fd_take {at_ n : Nat} {L : List (Nat × List UInt8)} {j : Nat} {p : Nat × List UInt8} (hz : L[j]? = some p) (h : hasB at_ n p = true) : fdR at_ n (L.drop j) = some ((p.2.drop (at_ - p.1)).take n) := by
  rw [drop_get hz, fdR, if_pos h]
theorem sl_lh64 (A : Option Addr) (n c i v : Nat) {a b : Int} (ha : a = i) (hb : b = i + v) (hc : i + v ≤ c) (W : World) :
    (Instr.slice 23 (.slice A n c) (some (.int .u64 a)) (some (.int .u64 b)) none).run Try.prog W = .ok (.slice (sA A c i) v (c - i)) W := slice_lh Try.underlying23 size8 A n c i v ha hb hc W

set_option maxRecDepth 100000 in
set_option maxHeartbeats 4000000 in
theorem rfind_any (b : Nat) (A0 : Option Addr) (n0 c0 : Nat) (l0 : List UInt8) (A : Option Addr) (m c : Nat) (L : List (Nat × List UInt8)) (at_ : Nat) (nn : Nat) (w : World) (hr0 : Rb w A0 n0 l0) (hc0 : n0 ≤ c0 ∧ c0 ≤ 9223372036854775807) (hb : b < 18446744073709551616) (hr : RdR w A m L) (hm : m ≤ 1000000) (hat : at_ < 18446744073709551616) (hnn : nn ≤ 4096) :
    Calls Try.prog 38 #[rgn b A0 n0 c0, .slice A m c, .int .u64 (at_ : Int), .int .i64 (nn : Int)] w fun e w' => FdP w at_ nn ((b, l0) :: L) e w' := by
  have hl := hr0.len8
  subst hl
  have HR0 := Lib.hid hr0
  have HRS := Lib.hid hr
  have HLn := Lib.hid hr.1
  clear hr0 hr
  have hB : Below w.heap.size w (w.alloc (.cells #[.int .u64 (b : Int), .slice A0 l0.length c0] 25)) := (Below.alloc (Below.refl w.heap.size w) (by simp <;> omega) (.cells #[.int .u64 (b : Int), .slice A0 l0.length c0] 25))
  have hk := Blk.new w 25 #[.int .u64 (b : Int), .slice A0 l0.length c0]
  have hB9 := hB.alloc hB.size (.cells #[.int .u64 (b : Int), .slice A0 l0.length c0] 25)
  have hpe := own_pair (e := 25) (base := w.heap.size) (g := w.heap.size + 1) hB.size (by simp) (.int .u64 (b : Int)) (.slice A0 l0.length c0)
  obtain ⟨vs, v2, v3, v3b, v4w, v5⟩ := HRS.out.ones
  have v4 := v4w.mv hB9
  clear v4w
  have hr0 := HR0.out.mv hB9
  go_enter Try.func38, Try.ntmps38
  have z0 : (w.alloc (.cells #[.int .u64 (b : Int), .slice A0 l0.length c0] 25)).cell? ⟨w.heap.size, 0, none⟩ = some (.int .u64 (b : Int)) := (hk.cell 0).trans rfl
  have z1 : (w.alloc (.cells #[.int .u64 (b : Int), .slice A0 l0.length c0] 25)).cell? ⟨w.heap.size, 1, none⟩ = some (.slice A0 l0.length c0) := (hk.cell 1).trans rfl
  go_wp2_with (at_builtin; refine wpList_app rfl (.tmp 15) (.tmp 16) _ rfl slRG w.heap.size _ 1 _ rfl hpe _ A m c vs.flatten rfl v4 v3b (by omega) hB9.size ?_; intro A9 c9 w9 o9 hg9 b9 hc9; have hx9 := RdR.cons_ HLn.out v2 v3 (fun k p hp => by obtain ⟨Ai, ci, g1, g2, g3, g4⟩ := v5 k p hp; exact ⟨Ai, ci, g1, g2, g3.mv (hB9.trans b9), g4⟩) (HR0.out.mv (hB9.trans b9)) hc0 hb o9; have hB9 := hB9.trans b9)
  clear z0 z1 hk hB hpe hr0 v2 v3 v3b v4 v5 o9 hg9 b9 hc9
  obtain ⟨n9, hn9⟩ : ∃ n9, 1 + m = n9 := ⟨_, rfl⟩
  have hn9b : n9 ≤ 1000001 := by omega
  rw [hn9] at hx9 ⊢
  clear hn9
  obtain ⟨LL, hLL⟩ : ∃ LL, (b, l0) :: L = LL := ⟨_, rfl⟩
  rw [hLL] at hx9
  have HLE := Lib.hid hLL
  clear hLL
  go_loopw [11] (fun i wr => ∃ j : Nat, j ≤ n9 ∧ i = .int .i64 (j : Int) ∧ fdR at_ nn LL = fdR at_ nn (LL.drop j) ∧ RdR wr A9 n9 LL ∧ Below w.heap.size w wr) (fun i _ => n9 - (intOf i).toNat)
  case atStart => exact ⟨0, by omega, rfl, rfl, hx9, hB9⟩
  case round =>
    obtain ⟨j, hj, rfl, hf, hx, hB⟩ := hrel
    have HF0 := Lib.hid hf
    have HLL := Lib.hid hx.1
    clear hf
    by_cases hlt : j < n9
    rotate_left
    · have HN := Lib.hid (show fdR at_ nn LL = none from by rw [HF0.out, List.drop_of_length_le (by rw [HLL.out]; omega)]; rfl)
      go_wp2_with fail
      go_ret2
      rw [HLE.out]
      unfold FdP
      exact ⟨none, 0, by rw [fdL, HN.out]; rfl, by rw [fdL, HN.out]; exact World.ownsRow_nil _ _ _ _, hB⟩
    obtain ⟨ad, bx, lx, Ax, cx, hA, hab, hz, c0', c1, hci, rl, hbx⟩ := hx.at_ hlt
    have HZ := Lib.hid hz
    have HX := Lib.hid hx
    clear hz
    have hA' := Lib.hid hA
    clear hx
    subst hA
    have hx := HX.out
    have c2 : wr.cell? { block := (ad.add (j * 2)).block, off := (ad.add (j * 2)).off + 1 } = some (.slice Ax lx.length cx) := by
      have e : ({ block := (ad.add (j * 2)).block, off := (ad.add (j * 2)).off + 1 } : Addr) = ad.add (j * 2 + 1) := by simp [Addr.add]; split <;> simp <;> omega
      rw [e]; exact c1

    have k12 := Blk.new wr 25 #[.int .u64 (bx : Int), .slice Ax lx.length cx]
    by_cases h1 : at_ < bx
    · have HF := Lib.hid (HF0.out.trans (fd_skip HZ.out (by simp [hasB]; omega)))
      have d1 : ¬ (bx : Int) ≤ (at_ : Int) := by omega
      have d1' : ¬ bx ≤ at_ := by omega
      go_wp2_with fail
      go_roundw
      case rel => exact ⟨j + 1, by omega, by go_num, HF.out, hx.mv (Ext.al wr _), hB.alloc hB.size _⟩
      case measure => simp [intOf]; omega

    have d1 : bx ≤ at_ := by omega
    have hw0 : IntKind.u64.wrap ((at_ : Int) - (bx : Int)) = (at_ : Int) - (bx : Int) := by rw [IntKind.wrap_u64]; omega
    have hw1 : IntKind.u64.wrap (lx.length : Int) = (lx.length : Int) := by rw [IntKind.wrap_u64]; omega
    by_cases h2 : lx.length < at_ - bx
    · have HF := Lib.hid (HF0.out.trans (fd_skip HZ.out (by simp [hasB]; omega)))
      have d2 : ¬ (at_ : Int) - (bx : Int) ≤ (lx.length : Int) := by omega
      go_wp2_with fail
      go_roundw
      case rel => exact ⟨j + 1, by omega, by go_num, HF.out, hx.mv (Ext.al wr _), hB.alloc hB.size _⟩
      case measure => simp [intOf]; omega

    have d2 : (at_ : Int) - (bx : Int) ≤ (lx.length : Int) := by omega
    have hw2 : IntKind.u64.wrap ((lx.length : Int) - ((at_ : Int) - (bx : Int))) = (lx.length : Int) - ((at_ : Int) - (bx : Int)) := by rw [IntKind.wrap_u64]; omega
    have hw3 : IntKind.u64.wrap (nn : Int) = (nn : Int) := by rw [IntKind.wrap_u64]; omega
    by_cases h3 : lx.length - (at_ - bx) < nn
    · have HF := Lib.hid (HF0.out.trans (fd_skip HZ.out (by simp [hasB]; omega)))
      have d3 : ¬ (nn : Int) ≤ (lx.length : Int) - ((at_ : Int) - (bx : Int)) := by omega
      go_wp2_with fail
      go_roundw
      case rel => exact ⟨j + 1, by omega, by go_num, HF.out, hx.mv (Ext.al wr _), hB.alloc hB.size _⟩
      case measure => simp [intOf]; omega

    have d3 : (nn : Int) ≤ (lx.length : Int) - ((at_ : Int) - (bx : Int)) := by omega
    have hw4 : IntKind.u64.wrap ((at_ : Int) - (bx : Int) + (nn : Int)) = (at_ : Int) - (bx : Int) + (nn : Int) := by rw [IntKind.wrap_u64]; omega
    obtain ⟨i, hi⟩ : ∃ i, at_ - bx = i := ⟨_, rfl⟩
    have hil : i + nn ≤ lx.length := by omega
    have SL := sl_lh64 Ax lx.length cx i nn (a := (at_ : Int) - (bx : Int)) (b := (at_ : Int) - (bx : Int) + (nn : Int)) (by omega) (by omega) (by omega)
    have HFT := Lib.hid (show fdR at_ nn LL = some ((lx.drop i).take nn) from by
      rw [HF0.out, fd_take HZ.out (by simp [hasB]; omega), ← hi])
    have HTn := Lib.hid (show ((lx.drop i).take nn).length = nn from by rw [List.length_take, List.length_drop]; omega)
    have hB12 := hB.alloc hB.size (.cells #[.int .u64 (bx : Int), .slice Ax lx.length cx] 25)
    have hsub := sub_reads ((rl.mv (Ext.al wr (.cells #[.int .u64 (bx : Int), .slice Ax lx.length cx] 25))).mv (Ext.al _ (.cells #[] 5))) (i := i) (v := nn) hil hci.1
    have ho5 := own_empty (wr.alloc (.cells #[.int .u64 (bx : Int), .slice Ax lx.length cx] 25)) (Nat.le_refl _) 5 1
    have hB13 := hB12.alloc hB12.size (.cells #[] 5)
    rw [alloc_size] at ho5
    clear hi
    go_wp2_with (at_builtin; refine wpList_app8 (l := []) rfl (.tmp 55) (.tmp 69) _ (by rfl) sl8 (wr.heap.size + 1) (by rfl) ho5 (by rfl) hsub nn (by omega) (by omega) (by simp) ?_; intro A6 c6 w6 o6 b6; rw [List.nil_append] at o6; have hB14 := hB13.trans (b6.mono (by have := hB.size; omega)))
    go_ret2
    rw [HLE.out]
    unfold FdP
    exact ⟨A6, c6, by rw [fdL, HFT.out, Option.getD_some, HTn.out]; rfl, by rw [fdL, HFT.out, Option.getD_some, HTn.out]; exact own_low o6 (by have := hB.size; omega), hB14⟩

end Go.Proofs.Ytponceakelimeaa
