/- The contract of crc.Pieces with the right table, and the walk of CrcPieces: it returns true for every list of pieces, and writes nothing that was there. -/
import Derived.Test.YtjdoaoilfaligaaCrcPieces0
namespace Go.Proofs.Ytjdoaoilfaligaa
open Go.RowKit Crc
set_option linter.unusedVariables false

/-- What Pieces returns: the checksum, the error. -/
def pcsV (LL : List (List UInt8)) : Nat := if LL.length ≤ 64 ∧ LL.flatten.length ≤ 200000 then nxt 0 LL.flatten else 0
def pcsE (LL : List (List UInt8)) : Int := if LL.length ≤ 64 ∧ LL.flatten.length ≤ 200000 then 0 else 4

set_option maxRecDepth 100000 in
set_option maxHeartbeats 1600000 in
theorem pieces_any (A : Option Addr) (n c : Nat) (LL : List (List UInt8)) (w : World) (hr : Rbb w A n LL) (hn : n ≤ 9223372036854775807) :
    Calls Try.prog 21 #[.agg (arr .u32 256 el), .slice A n c] w fun e w' => e = .returned (.tuple #[.int .u32 (pcsV LL : Nat), .int .i64 (pcsE LL)]) ∧ Below w.heap.size w w' := by
  have HR := Lib.hid hr
  have HL := Lib.hid hr.1
  clear hr
  have hB0 := (Below.refl w.heap.size w).alloc (Nat.le_refl _) (.cells (arr .u32 256 el) 25)
  by_cases h64 : n ≤ 64
  · go_enter Try.func21, Try.ntmps21
    go_wp2_with (refine wpList_load_blk rfl 25 _ rfl w.heap.size rfl (Blk.new w _ _) Try.underlying25 rfl (tab_sized _) ?_)
    refine (check_ok el (eqn_refl _ _) _).mono ?_
    rintro e w1 ⟨rfl, hb1⟩
    have hB1 := hB0.trans (hb1.mono hB0.size)
    have hk1 := (Blk.new w 25 (arr .u32 256 el)).below hb1 (by simp)
    clear hb1
    go_wp2_with fail
    go_loopw [7, 8, 21] (fun x y i wr => ∃ (k m : Nat), k ≤ n ∧ i = .int .i64 (k : Int) ∧ m = (LL.take k).flatten.length ∧ m ≤ 200000 ∧ y = .int .i64 (200000 - (m : Int)) ∧ x = .int .u32 (sts (cpl 0) (LL.take k).flatten : Nat) ∧
        Below w.heap.size w wr ∧ Blk wr w.heap.size 25 (arr .u32 256 el)) (fun _ _ i _ => n - (intOf i).toNat)
    case atStart => exact ⟨0, 0, by omega, rfl, by simp, by omega, rfl, by simp; rfl, hB1, hk1⟩
    case round =>
      obtain ⟨k, m, hk, rfl, hm, hm2, rfl, rfl, hB, hkr⟩ := hrel
      have HM := Lib.hid hm
      clear hm
      by_cases hlt : k < n
      · obtain ⟨ad, Ai, ci, li, rfl, _, hli, hc, hci, hri⟩ := (HR.out.mv hB).at_ hlt
        have hflat := flat_take hli
        have hle := flat_take_le LL (k + 1)
        rw [hflat, List.length_append, ← HM.out] at hle
        have HFL := Lib.hid hflat
        have HRI := Lib.hid hri
        clear hli hri hflat
        have hx := sts_lt (LL.take k).flatten (cpl_lt 0)
        have HX := Lib.hid (show sts (cpl 0) ((LL.take k).flatten ++ li) = stsf el (sts (cpl 0) (LL.take k).flatten) li from sts_append _ _ _)
        by_cases hfit : li.length ≤ 200000 - m
        · have HST := fun wq (hq : Rb wq Ai li.length li) => Lib.hid (steps_any el (fun i h => el_lt (by omega)) (sts (cpl 0) (LL.take k).flatten) hx Ai li.length ci li wq hq (by omega))
          have HRB := fun wq (hb : Below wr.heap.size wr wq) => (HRI.out.mv hb)
          obtain ⟨q, hq⟩ : ∃ q, q = li.length := ⟨_, rfl⟩
          rw [← hq] at hc hci hle hfit HST
          have HQQ := Lib.hid hq
          clear hq
          go_wp2_with (refine wpList_load_blk rfl 25 _ rfl w.heap.size rfl hkr Try.underlying25 rfl (tab_sized _) ?_)
          refine ((HST wr (by rw [HQQ.out]; exact HRI.out)).out).mono ?_
          rintro e w2 ⟨rfl, hb2⟩
          go_wp2_with fail
          go_roundw
          case rel => exact ⟨k + 1, m + q, by omega, by go_num, by rw [HFL.out, List.length_append, ← HM.out, HQQ.out], by omega, by go_num, by rw [HFL.out, HX.out], hB.trans (hb2.mono hB.size), hkr.below hb2 hkr.lt⟩
          case measure => simp [intOf]; omega
        · have HV := Lib.hid (show pcsV LL = 0 from if_neg (by omega))
          have HE := Lib.hid (show pcsE LL = 4 from if_neg (by omega))
          clear HX HRI
          generalize li.length = q at *
          go_wp2
          go_ret2
          exact ⟨by rw [HV.out, HE.out]; rfl, hB⟩
      · obtain rfl : k = n := by omega
        have hall : (LL.take k).flatten = LL.flatten := by rw [List.take_of_length_le (by rw [HL.out]; exact Nat.le_refl _)]
        have hm3 := HM.out
        rw [hall] at hm3 ⊢
        have HV := Lib.hid (show pcsV LL = nxt 0 LL.flatten from if_pos ⟨by rw [HL.out]; exact h64, by omega⟩)
        have HE := Lib.hid (show pcsE LL = 0 from if_pos ⟨by rw [HL.out]; exact h64, by omega⟩)
        clear hm3
        have N1 := not_u32 (sts (cpl 0) LL.flatten) (sts_lt _ (cpl_lt 0))
        go_wp2
        go_ret2
        exact ⟨by rw [HV.out, HE.out]; rfl, hB⟩
  · have HV := Lib.hid (show pcsV LL = 0 from if_neg (by rw [HL.out]; omega))
    have HE := Lib.hid (show pcsE LL = 4 from if_neg (by rw [HL.out]; omega))
    go_enter Try.func21, Try.ntmps21
    go_wp2_with (refine wpList_load_blk rfl 25 _ rfl w.heap.size rfl (Blk.new w _ _) Try.underlying25 rfl (tab_sized _) ?_)
    refine (check_ok el (eqn_refl _ _) _).mono ?_
    rintro e w1 ⟨rfl, hb1⟩
    go_wp2
    go_ret2
    exact ⟨by rw [HV.out, HE.out]; rfl, hB0.trans (hb1.mono hB0.size)⟩

set_option maxRecDepth 100000 in
set_option maxHeartbeats 1600000 in
theorem crcPieces_walk (w : World) (A : Option Addr) (n c : Nat) (LL : List (List UInt8)) (hr : Rbb w A n LL) (hc : n ≤ c ∧ c ≤ 9223372036854775807) :
    Calls Try.prog 6 #[.slice A n c] w fun e w' => e = .returned (.bool true) ∧ Below w.heap.size w w' := by
  have HR := Lib.hid hr
  have HL := Lib.hid hr.1
  clear hr
  have hn : n ≤ 9223372036854775807 := by omega
  clear hc
  by_cases h64 : 64 < n
  · have hd : decide ((64 : Int) < (n : Int)) = true := by simp; omega
    go_enter Try.func6, Try.ntmps6
    go_wp2_with (go_at_call 17; refine (alive_any _).mono ?_; rintro e w7 ⟨rfl, hb7⟩)
    go_ret
    exact ⟨rfl, hb7⟩
  have hd : decide ((64 : Int) < (n : Int)) = false := by simp; omega
  cases hg : greatB LL
  · have HG := Lib.hid hg
    clear hg
    have hlen : ∀ (k : Nat) (li : List UInt8), LL[k]? = some li → li.length ≤ 200100 := fun k li h => by
      have h1 := HG.out
      simp [greatB] at h1
      have h2 := h1.2 li (List.mem_of_getElem? h)
      simp [longB] at h2; omega
    have htot : LL.flatten.length ≤ n * 200100 := by
      rw [← HL.out]
      have : ∀ L : List (List UInt8), (∀ li ∈ L, li.length ≤ 200100) → L.flatten.length ≤ L.length * 200100 := by
        intro L
        induction L with
        | nil => simp
        | cons a L ih =>
          intro h
          have h1 := h a (by simp)
          have h2 := ih fun li hli => h li (by simp [hli])
          simp only [List.flatten_cons, List.length_append, List.length_cons]
          omega
      exact this LL fun li hli => by
        obtain ⟨k, hk⟩ := List.getElem?_of_mem hli
        exact hlen k li hk
    have HLEN := Lib.hid hlen
    clear hlen
    have htot2 : LL.flatten.length ≤ 140737488351232 := by omega
    clear htot
    go_enter Try.func6, Try.ntmps6
    go_wp2_with (go_at_call 19; refine (great_any A n _ LL _ HR.out hn).mono ?_; rintro e w7 ⟨rfl, rfl⟩; rw [HG.out])
    refine (whole_any A n _ LL _ HR.out htot2 hn).mono ?_
    rintro e w1 ⟨A1, c1, rfl, hr1, hb1⟩
    have HR1 := Lib.hid hr1
    clear hr1
    obtain ⟨N, hN⟩ : ∃ N, N = LL.flatten.length := ⟨_, rfl⟩
    rw [← hN] at htot2 ⊢
    have HN := Lib.hid hN
    have HR1 : Hid (Rb w1 A1 N LL.flatten) := by have := HR1.out; rw [← hN] at this; exact this
    clear hN
    by_cases h2000 : N ≤ 2000
    · have HZ := Lib.hid (zero_of_info tab_zero).1
      go_wp2_with fail
      refine (table_any _).mono ?_
      rintro e w2 ⟨rfl, hb2⟩
      have hk2 := Blk.new w2 25 (arr .u32 256 el)
      have hb3 := hb2.alloc hb2.size (.cells (arr .u32 256 el) 25)
      go_wp2_with (first
        | (refine wpList_alloc_big rfl 25 rfl _ HZ.out ?_)
        | (refine wpList_store_new rfl 25 _ _ rfl w2 rfl _ (arr .u32 256 el) rfl (tab_sized _) (by rw [arr_size, arr_size]) (arr_one _ _ _) ?_)
        | (refine wpList_load_blk rfl 25 (.tmp 4) rfl w2.heap.size rfl hk2 Try.underlying25 rfl (tab_sized _) ?_))
      have hB3 := hb1.trans (hb3.mono hb1.size)
      refine (pieces_any A n _ LL _ (HR.out.mv hB3) hn).mono ?_
      rintro e w4 ⟨rfl, hb4⟩
      have HV := Lib.hid (show pcsV LL = nxt 0 LL.flatten from if_pos ⟨by rw [HL.out]; omega, by rw [← HN.out]; omega⟩)
      have HE := Lib.hid (show pcsE LL = 0 from if_pos ⟨by rw [HL.out]; omega, by rw [← HN.out]; omega⟩)
      rw [HV.out, HE.out]
      have hk4 := hk2.below hb4 hk2.lt
      have hB4 := hB3.trans (hb4.mono hB3.size)
      have hb4' := hb3.trans (hb4.mono hb3.size)
      go_wp2_with (refine wpList_load_blk rfl 25 (.tmp 4) rfl w2.heap.size rfl hk4 Try.underlying25 rfl (tab_sized _) ?_)
      refine (sum_all el true (eqn_refl _ _) A1 N _ LL.flatten _ (HR1.out.mv hb4') (by omega)).mono ?_
      rintro e w5 ⟨rfl, hb5⟩
      have HV2 := Lib.hid (show nxtV true N 0 LL.flatten = nxt 0 LL.flatten from by simp [nxtV]; omega)
      have HE2 := Lib.hid (show nxtE true N = 0 from by simp [nxtE]; omega)
      rw [HV2.out, HE2.out]
      have hk5 := hk4.below hb5 hk4.lt
      have hB5 := hB4.trans (hb5.mono hB4.size)
      clear hb1 hb2 hb3 hb4 hb4' hb5 hB3 hB4 hk2 hk4 HV HE HV2 HE2 HR1
      go_wp2_with fail
      go_loopw [9, 10] (fun x i wr => ∃ (k : Nat), k ≤ n ∧ i = .int .i64 (k : Int) ∧ x = .int .u32 (nxt 0 (LL.take k).flatten : Nat) ∧ Below w5.heap.size w5 wr) (fun _ i _ => n - (intOf i).toNat)
      case atStart => exact ⟨0, by omega, rfl, by simp; rfl, Below.refl _ _⟩
      case round =>
        obtain ⟨k, hk, rfl, rfl, hB⟩ := hrel
        have hkr := hk5.below hB hk5.lt
        have hBr := hB5.trans (hB.mono hB5.size)
        by_cases hlt : k < n
        · obtain ⟨ad, Ai, ci, li, rfl, _, hli, hc, hci, hri⟩ := (HR.out.mv hBr).at_ hlt
          have HFL := Lib.hid (flat_take hli)
          have hl := HLEN.out k li hli
          have HX := Lib.hid (show nxt 0 ((LL.take k).flatten ++ li) = nxt (nxt 0 (LL.take k).flatten) li from nxt_append _ _)
          have hx := nxt_lt 0 (LL.take k).flatten
          have hle := flat_take_le LL (k + 1)
          rw [HFL.out, List.length_append, ← HN.out] at hle
          have HV := Lib.hid (show nxtV true li.length (nxt 0 (LL.take k).flatten) li = nxt (nxt 0 (LL.take k).flatten) li from by simp [nxtV]; omega)
          have HE := Lib.hid (show nxtE true li.length = 0 from by simp [nxtE]; omega)
          have HRI := Lib.hid hri
          clear hli hri hle
          have hu : Try.prog.underlying 25 = some (.array 256 22) := Try.underlying25
          have hi : (Try.prog.info? 25).map (·.size) = some (arr .u32 256 el).toList.length := by rw [Array.length_toList]; exact tab_sized el
          have k0 : (0 : Int) ≤ (k : Int) := by omega
          have k1 : (k : Int) < (n : Int) := by omega
          go_wp2_with fail
          have hcd : wr.drew.cell? (ad.add k) = some (.slice Ai li.length ci) := hc
          go_region_held3 (fun w' => w'.rangeAt w2.heap.size 0 (arr .u32 256 el).toList ∧ w'.cell? (ad.add k) = some (.slice Ai li.length ci) ∧ Below wr.heap.size wr w') (first | (with_reducible exact ⟨hkr.drew.rangeL, hcd, (Below.refl _ _).drew⟩) | exact ⟨(hkr.below_drew hb6).rangeL, (below_of_drew hb6).cell (by rw [block_of_add]; assumption) |>.trans hc, below_of_drew hb6⟩) ((go_at_call 13; refine (next_all el true (eqn_refl _ _) _ hx Ai li.length ci li _ (Reads.drew HRI.out) (by omega)).mono ?_; rintro e w6 ⟨rfl, hb6⟩; rw [HV.out, HE.out]))
          go_wp2_with fail
          go_roundw
          case rel => exact ⟨k + 1, by omega, by go_num, by rw [HFL.out, HX.out], hB.trans ((below_of_drew hb6).mono hB.size)⟩
          case measure => simp [intOf]; omega
        · obtain rfl : k = n := by omega
          rw [List.take_of_length_le (by rw [HL.out]; exact Nat.le_refl _)]
          go_wp2_with (go_at_call 17; refine (alive_any _).mono ?_; rintro e w7 ⟨rfl, hb7⟩)
          go_ret
          exact ⟨rfl, hBr.trans (hb7.mono hBr.size)⟩
    · go_wp2_with (go_at_call 17; refine (alive_any _).mono ?_; rintro e w7 ⟨rfl, hb7⟩)
      go_ret
      exact ⟨rfl, hb1.trans (hb7.mono hb1.size)⟩
  · have HG := Lib.hid hg
    clear hg
    go_enter Try.func6, Try.ntmps6
    go_wp2_with (first
      | (go_at_call 19; refine (great_any A n _ LL _ HR.out hn).mono ?_; rintro e w7 ⟨rfl, rfl⟩; rw [HG.out])
      | (go_at_call 17; refine (alive_any _).mono ?_; rintro e w7 ⟨rfl, hb7⟩))
    go_ret
    exact ⟨rfl, hb7⟩
end Go.Proofs.Ytjdoaoilfaligaa
