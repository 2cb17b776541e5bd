/- The walk of CrcChanged: it returns true for every string, index and four bytes, and writes nothing that was there. -/
import Derived.Test.YtjdoaoilfaligaaCrcLaw
import Derived.Test.YtjdoaoilfaligaaSlice
namespace Go.Proofs.Ytjdoaoilfaligaa
open Go.RowKit Crc
set_option linter.unusedVariables false

theorem same_any (A1 A2 : Option Addr) (n1 n2 c1 c2 : Nat) (l1 l2 : List UInt8) (w : World) (h1 : Rb w A1 n1 l1) (h2 : Rb w A2 n2 l2) :
    Calls Try.prog 18 #[.slice A1 n1 c1, .slice A2 n2 c2] w fun e w' => e = .returned (.bool (l1 == l2)) ∧ w = w' := by
  have H1 := Lib.hid h1
  have H2 := Lib.hid h2
  clear h1 h2
  go_enter Try.func18, Try.ntmps18
  go_wp2_with (first
    | (refine wpList_to_str rfl 23 9 5 (.tmp 5) rfl Try.underlying23 Try.underlying5 Try.underlying9 rfl H1.out ?_)
    | (refine wpList_to_str rfl 23 9 5 (.tmp 7) rfl Try.underlying23 Try.underlying5 Try.underlying9 rfl H2.out ?_))
  go_ret
  exact ⟨rfl, rfl⟩

theorem sl8 : IsSl Try.prog 23 5 (.int .u8 0) 1 1 := ⟨Try.underlying23, by kernel_rfl, rfl, by omega, by omega⟩

theorem list_parts {α : Type} (l : List α) (a k : Nat) : l = l.take a ++ (l.drop a).take k ++ l.drop (a + k) := by
  rw [List.append_assoc, ← List.drop_drop, List.take_append_drop, List.take_append_drop]
/-- Strings that are alike but for at most four bytes that stand side by side. -/
theorem changed_iff (l m : List UInt8) (a k : Nat) (hk : k ≤ 4) (hl : m.length = l.length) (h1 : m.take a = l.take a) (h2 : m.drop (a + k) = l.drop (a + k)) :
    ((nxt 0 l : Int) == (nxt 0 m : Int)) = (l == m) := by
  rw [Bool.eq_iff_iff]
  simp
  refine ⟨fun h => ?_, fun h => by rw [h]⟩
  have h : nxt 0 l = nxt 0 m := by omega
  have e1 := list_parts l a k
  have e2 := list_parts m a k
  rw [h1, h2] at e2
  rw [e1, e2] at h
  have := nxt_four 0 (l.take a) ((l.drop a).take k) ((m.drop a).take k) (l.drop (a + k)) (by simp [hl]) (by simp; omega) h
  rw [e1, e2, this]

set_option maxRecDepth 100000 in
set_option maxHeartbeats 1600000 in
theorem crcChanged_in (w : World) (A : Option Addr) (n c : Nat) (l : List UInt8) (hr : Rb w A n l) (hn : n ≤ 700) (k : Nat) (hk : k < n)
    (f : Nat → Nat) (hf : ∀ j, j < 4 → f j < 256) :
    Calls Try.prog 4 #[.slice A n c, .int .i64 (k : Int), .agg (arr .u8 4 f)] w fun e w' => e = .returned (.bool true) ∧ Below w.heap.size w w' := by
  have hB0 := ((Below.refl w.heap.size w).alloc (Nat.le_refl _) (.cells (arr .u8 4 f) 36)).alloc (by simp) (.cells #[] 5)
  have HR := Lib.hid hr
  have HL := Lib.hid hr.len8
  clear hr
  have HO := Lib.hid (own_empty (w.alloc (.cells (arr .u8 4 f) 36)) (base := w.heap.size + 1) (by simp) 5 1)
  rw [World.size_alloc] at HO
  have hd1 : decide (700 < (n : Int)) = false := by simp; omega
  have hd2 : decide ((k : Int) < 0) = false := by simp
  have hd3 : decide (n ≤ k) = false := by simp; omega
  go_enter Try.func4, Try.ntmps4
  go_wp2_with (at_builtin; refine wpList_app rfl (.tmp 28) (.tmp 29) _ rfl sl8 (w.heap.size + 1) _ 0 [] rfl HO.out _ A n c _ rfl (HR.out.mv hB0) (b8_one l) (by omega) (by simp) ?_; intro A1 c1 w1 hown1 hg1 hb1 hc1; simp only [Nat.zero_add, List.nil_append] at hown1 hc1 ⊢; obtain ⟨g, hA, hgb⟩ := own_head hown1 (by omega); subst hA)
  have hB1 : Below w.heap.size w w1 := hB0.trans (hb1.mono (by omega))
  have hk0 : Blk w1 w.heap.size 36 (arr .u8 4 f) := ((Blk.new w _ _).alloc _).below hb1 (by omega)
  clear hg1 hb1 hB0
  have HR1 := Lib.hid (HR.out.mv hB1)
  go_loopw [8] (fun i wr => ∃ (j : Nat) (m : List UInt8), j ≤ 4 ∧ i = .int .i64 (j : Int) ∧ wr.ownsRow (w.heap.size + 1) 5 1 (.slice (some ⟨g, 0, none⟩) n c1) n (m.map b8) ∧ m.length = n ∧ m.take k = l.take k ∧ m.drop (k + j) = l.drop (k + j) ∧
      Below w.heap.size w wr ∧ Blk wr w.heap.size 36 (arr .u8 4 f)) (fun i _ => 4 - (intOf i).toNat)
  case atStart => exact ⟨0, l, by omega, rfl, hown1, HL.out, rfl, rfl, hB1, hk0⟩
  case round =>
    obtain ⟨j, m, hj, rfl, hown, hm, ht, hd, hB, hk1⟩ := hrel
    have HM := Lib.hid hm
    have HT := Lib.hid ht
    have HD := Lib.hid hd
    clear hm ht hd
    by_cases hgo : j < 4 ∧ k + j < n
    · obtain ⟨hj4, hkj⟩ := hgo
      have hcf := hk1.arr_cell hj4
      have hfj := hf j hj4
      have hcc : wr.cell? ⟨g, k + j, none⟩ = some (b8 (m[k + j]'(by rw [HM.out]; exact hkj))) := by
        rw [hown.cellAt (k + j) (by omega), List.getElem?_map, List.getElem?_eq_getElem (by rw [HM.out]; exact hkj)]; rfl
      have hfr := hown.frozenAt (k + j)
      obtain ⟨hown2, hgr⟩ := hown.stored (k + j) (.int .u8 (f j : Int))
      have hd4 : decide ((k : Int) + (j : Int) < (n : Int)) = true := by simp; omega
      go_wp2
      go_roundw
      case rel =>
        refine ⟨j + 1, m.set (k + j) (UInt8.ofNat (f j)), by omega, by go_num, ?_, by simp [HM.out], ?_, ?_, hB.grown hgr (by have := hB.size; omega) (fun q hq => by injection hq with hq; omega), hk1.far (by show w.heap.size ≠ g; omega) _⟩
        · rw [List.map_set, show b8 (UInt8.ofNat (f j)) = .int .u8 (f j : Int) from by unfold b8; rw [UInt8.toNat_ofNat']; congr 1; omega]
          exact hown2
        · rw [List.take_set_of_le (by omega), HT.out]
        · rw [List.drop_set_of_lt (by omega), show k + (j + 1) = (k + j) + 1 from rfl, ← List.drop_drop, HD.out, List.drop_drop]
      case measure => simp [intOf]; omega
    · have hX := Lib.hid (changed_iff l m k j hj (by rw [HM.out, HL.out]) HT.out HD.out)
      have hrm := Lib.hid (own_reads hown)
      have HRr := Lib.hid (HR.out.mv hB)
      have hz := Lib.hid (zero_of_info tab_zero).1
      have hnx : nxtV true n 0 l = nxt 0 l := by simp [nxtV]; omega
      have hnx2 : nxtV true n 0 m = nxt 0 m := by simp [nxtV]; omega
      have hne : nxtE true n = 0 := by simp [nxtE]; omega
      have hnx := Lib.hid hnx
      have hnx2 := Lib.hid hnx2
      have hne := Lib.hid hne
      clear hown HT HD HL hown1 hB1
      by_cases hj4 : j < 4
      all_goals
        first
          | (have hd4 : decide ((k : Int) + (j : Int) < (n : Int)) = false := by simp; omega)
          | skip
        go_wp2_with fail
        refine (table_any _).mono ?_
        rintro e w2 ⟨rfl, hb2⟩
        have hk2 := Blk.new w2 25 (arr .u32 256 el)
        have hb3 := hb2.alloc hb2.size (.cells (arr .u32 256 el) 25)
        go_wp2_with (first
          | (refine wpList_alloc_big rfl 25 rfl _ hz.out ?_)
          | (refine wpList_store_new rfl 25 _ _ rfl w2 rfl _ (arr .u32 256 el) rfl (tab_sized _) (by rw [arr_size, arr_size]) (arr_one _ _ _) ?_)
          | (refine wpList_load_row rfl 25 (.tmp 9) rfl w2.heap.size rfl _ _ (0, 0) _ hk2 Try.underlying25 rfl (tab_sized _) ?_))
        refine (sum_all el true (eqn_refl _ _) A n c l _ (HRr.out.mv hb3) (by omega)).mono ?_
        rintro e w3 ⟨rfl, hb4⟩
        rw [hnx.out, hne.out]
        have hk3 := hk2.below hb4 (by simp)
        have hb5 := hb3.trans (hb4.mono hb3.size)
        go_wp2_with (refine wpList_load_row rfl 25 (.tmp 9) rfl w2.heap.size rfl _ _ (0, 0) _ hk3 Try.underlying25 rfl (tab_sized _) ?_)
        refine (sum_all el true (eqn_refl _ _) _ n _ m _ (hrm.out.mv hb5) (by omega)).mono ?_
        rintro e w4 ⟨rfl, hb6⟩
        rw [hnx2.out, hne.out]
        have hb7 := hb5.trans (hb6.mono hb5.size)
        go_wp2_with fail
        refine (same_any A _ n n c _ l m _ (HRr.out.mv hb7) (hrm.out.mv hb7)).mono ?_
        rintro e w5 ⟨rfl, rfl⟩
        have hX := hX.out
        generalize (l == m) = q at *
        go_wp2_with fail
        refine (alive_any _).mono ?_
        rintro e w5 ⟨rfl, hb8⟩
        go_wp2
        go_ret
        exact ⟨rfl, hB.trans ((hb7.mono hB.size).trans (hb8.mono (Nat.le_trans hB.size hb7.size)))⟩

set_option maxRecDepth 100000 in
theorem crcChanged_walk (w : World) (A : Option Addr) (n c : Nat) (l : List UInt8) (hr : Rb w A n l) (hc : n ≤ c ∧ c ≤ 9223372036854775807) (i : Int) (hi : -9223372036854775808 ≤ i ∧ i ≤ 9223372036854775807)
    (f : Nat → Nat) (hf : ∀ j, j < 4 → f j < 256) :
    Calls Try.prog 4 #[.slice A n c, .int .i64 i, .agg (arr .u8 4 f)] w fun e w' => e = .returned (.bool true) ∧ Below w.heap.size w w' := by
  by_cases hin : n ≤ 700 ∧ 0 ≤ i ∧ i < n
  · obtain ⟨h1, h2, h3⟩ := hin
    obtain ⟨k, rfl⟩ := Int.eq_ofNat_of_zero_le h2
    exact crcChanged_in w A n c l hr h1 k (by omega) f hf
  · clear hr
    have hB0 := (Below.refl w.heap.size w).alloc (Nat.le_refl _) (.cells (arr .u8 4 f) 36)
    have hz : 700 < n ∨ n ≤ 700 ∧ i < 0 ∨ n ≤ 700 ∧ 0 ≤ i ∧ n ≤ i := by omega
    clear hin
    rcases hz with h1 | ⟨h1, h2⟩ | ⟨h1, h2, h3⟩
    all_goals
      go_enter Try.func4, Try.ntmps4
      go_wp2_with fail
      refine (alive_any _).mono ?_
      rintro e w1 ⟨rfl, hb1⟩
      go_wp2
      go_ret
      exact ⟨rfl, hB0.trans (hb1.mono hB0.size)⟩
end Go.Proofs.Ytjdoaoilfaligaa
