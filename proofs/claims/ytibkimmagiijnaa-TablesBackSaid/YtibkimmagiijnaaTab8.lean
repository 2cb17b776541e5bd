/- What lists and runs say of each other (plain laws), and the contract of the law's alive. Each states its conditions. -/
import Derived.Test.YtibkimmagiijnaaTab6
namespace Go.Proofs.Ytibkimmagiijnaa
open Go.RowKit Wire
set_option linter.unusedVariables false

/-- The conversion of bytes to a string, in a world. -/
abbrev CvS (A : Option Addr) (n c : Nat) (l : List UInt8) (w : World) : Prop := (convert 41 9 (.slice A n c)).run Try.prog w = .ok (.string ⟨l.toArray⟩) w
theorem cvS {A : Option Addr} {n : Nat} {l : List UInt8} {w : World} {B : Nat} (c : Nat) (h : RdB w B A n l) : CvS A n c l w := conv_to_str _ _ _ Try.underlying41 Try.underlying5 Try.underlying9 c h
theorem rdN_new (w : World) (L : List (Int × Nat)) (hf : ∀ p ∈ L, fitR p) : RdN (w.alloc (.cells (rnC L).toArray 61)) (some ⟨w.heap.size, 0, none⟩) L.length L := by
  refine ⟨⟨rnC_len L, fun h0 => ⟨_, rfl, by simp, fun j u hu => ?_⟩⟩, hf⟩
  have hadd : (⟨w.heap.size, 0, none⟩ : Addr).add j = ⟨w.heap.size, j, none⟩ := by unfold Addr.add; split <;> simp_all
  rw [hadd, (Blk.new w 61 (rnC L).toArray).cell j]
  simpa using hu
theorem rdU_new (w : World) (l : List Nat) (hf : ∀ x ∈ l, x < 18446744073709551616) : RdU (w.alloc (.cells (l.map vU).toArray 31)) (some ⟨w.heap.size, 0, none⟩) l.length l := by
  have h := reads_row w (l.map vU) 31
  rw [List.length_map] at h
  exact ⟨h.more (by simp), hf⟩

theorem mdR_ok {r : List Nat} : ∀ {i b p : Nat}, b < i → frB ((b : Int), p) (mdR i p r) ((i + r.length : Nat) : Int) = true ∧ ∀ k, k < r.length → r[k]? = some (vlF ((i + k : Nat) : Int) (mdR i p r) p) := by
  induction r with
  | nil => intro i b p _; exact ⟨rfl, fun k hk => absurd hk (by simp)⟩
  | cons x r ih =>
    intro i b p hb
    rw [mdR]
    split
    · rename_i he
      subst he
      obtain ⟨h1, h2⟩ := ih (i := i + 1) (b := b) (p := x) (by omega)
      obtain ⟨h3, _⟩ := ih (i := i + 1) (b := i) (p := x) (by omega)
      rw [show i + (x :: r).length = i + 1 + r.length by simp; omega]
      refine ⟨h1, fun k hk => ?_⟩
      rcases k with _ | k
      · have := frB_gt h3
        rw [vlF_big (by simpa using this)]; rfl
      · have := h2 k (by simpa using hk)
        rw [show i + (k + 1) = i + 1 + k by omega]
        simpa using this
    · rename_i he
      obtain ⟨h3, h2⟩ := ih (i := i + 1) (b := i) (p := x) (by omega)
      rw [show i + (x :: r).length = i + 1 + r.length by simp; omega]
      refine ⟨?_, fun k hk => ?_⟩
      · rw [frB, h3]
        simp
        refine ⟨by omega, by omega, fun h => he h.symm⟩
      · rcases k with _ | k
        · have := frB_gt h3
          rw [vlF, if_pos (by simp), vlF_big (by simpa using this)]; rfl
        · have := h2 k (by simpa using hk)
          rw [vlF, if_pos (by simp; omega), show i + (k + 1) = i + 1 + k by omega]
          simpa using this
theorem made_ok {v : List Nat} (hv : 0 < v.length) : fnB (made v) (v.length : Int) = true ∧ ∀ i, i < v.length → v[i]? = some (valA (made v) (i : Int)) := by
  rcases v with _ | ⟨x, r⟩
  · simp at hv
  · obtain ⟨h1, h2⟩ := mdR_ok (r := r) (i := 1) (b := 0) (p := x) (by omega)
    rw [made, show (x :: r).length = 1 + r.length by simp; omega]
    refine ⟨?_, fun i hi => ?_⟩
    · rw [fnB_ref]
      have h0 : (0 : Int) < ((1 + r.length : Nat) : Int) := by omega
      simp only [h0, decide_true, Bool.true_and, beq_self_eq_true]
      simpa using h1
    · rw [valA, vlF, if_pos (by simp)]
      rcases i with _ | i
      · have := frB_gt h1
        rw [vlF_big (by simpa using this)]; rfl
      · have := h2 i (by omega)
        rw [show i + 1 = 1 + i by omega]
        simpa [Nat.add_comm] using this
theorem lst_made {v : List Nat} (hv : 0 < v.length) : lstF (made v) v.length = v := by
  apply List.ext_getElem?
  intro i
  by_cases hi : i < v.length
  · rw [(made_ok hv).2 i hi, lstF, List.getElem?_map, List.getElem?_range hi]; rfl
  · rw [List.getElem?_eq_none (by rw [lstF_len]; omega), List.getElem?_eq_none (by omega)]
theorem lst_get {L : List (Int × Nat)} {m i : Nat} (h : i < m) : (lstF L m)[i]? = some (valA L (i : Int)) := by
  rw [lstF, List.getElem?_map, List.getElem?_range h]; rfl
theorem mdR_lst {L : List (Int × Nat)} {m : Nat} (h : fnB L (m : Int) = true) : ∀ (k i j v : Nat) (b : Int), k = m - i → i ≤ m → L[j]? = some (b, v) → b < (i : Int) → (∀ q, L[j + 1]? = some q → (i : Int) ≤ q.1) → mdR i v ((lstF L m).drop i) = L.drop (j + 1) := by
  intro k
  induction k with
  | zero =>
    intro i j v b hk hi hz hb hn
    rw [List.drop_of_length_le (by rw [lstF_len]; omega)]
    rcases hd : L.drop (j + 1) with _ | ⟨q, s⟩
    · rfl
    · exfalso
      have hq : L[j + 1]? = some q := by
        have := congrArg (fun l => l[0]?) hd
        simpa using this
      have h1 := hn q hq
      have h2 := (fn_at h hq).1.2
      omega
  | succ k ih =>
    intro i j v b hk hi hz hb hn
    have him : i < m := by omega
    rw [drop_get (lst_get (L := L) him)]
    by_cases hq : ∃ q, L[j + 1]? = some q ∧ q.1 = (i : Int)
    · obtain ⟨⟨q1, q2⟩, hq, he⟩ := hq
      simp at he
      subst he
      have hne := (fn_next h hz hq).2
      simp at hne
      have hv : valA L (i : Int) = q2 := val_at h hq (Int.le_refl _) (fun q hq2 => by have := (fn_next h hq hq2).1; simpa using this)
      rw [hv, mdR, if_neg (fun e => hne e.symm), drop_get hq]
      congr 1
      exact ih (i + 1) (j + 1) q2 (i : Int) (by omega) (by omega) hq (by omega) (fun q hq2 => by have := (fn_next h hq hq2).1; simp at this ⊢; omega)
    · have hlt : ∀ q, L[j + 1]? = some q → (i : Int) < q.1 := fun q hq1 => by
        have h1 := hn q hq1
        rcases Int.lt_or_eq_of_le h1 with h2 | h2
        · exact h2
        · exact absurd ⟨q, hq1, h2.symm⟩ hq
      have hv : valA L (i : Int) = v := val_at h hz (by omega) hlt
      rw [hv, mdR, if_pos rfl]
      exact ih (i + 1) j v b (by omega) (by omega) hz (by omega) (fun q hq1 => by have := hlt q hq1; omega)
theorem made_lst {L : List (Int × Nat)} {m : Nat} (h : fnB L (m : Int) = true) (hm : 0 < m) : made (lstF L m) = L := by
  obtain ⟨v, r, hL⟩ := fn_first h
  have hz : L[0]? = some (0, v) := by rw [hL]; rfl
  have hv : valA L 0 = v := val_at h hz (Int.le_refl _) (fun q hq => by have := (fn_next h hz hq).1; simpa using this)
  have h1 := mdR_lst h (m - 1) 1 0 v 0 (by omega) (by omega) hz (by omega) (fun q hq => by have := (fn_next h hz hq).1; simp at this; omega)
  have h2 : lstF L m = v :: (lstF L m).drop 1 := by
    have := drop_get (lst_get (L := L) hm)
    rw [List.drop_zero] at this
    rw [this]
    simp
    exact hv
  rw [h2, made]
  rw [hL] at h1 ⊢
  simp at h1 ⊢
  exact h1
theorem fn_more {L : List (Int × Nat)} {n m : Int} (h : fnB L n = true) (hm : n ≤ m) : fnB L m = true := by
  have key : ∀ (r : List (Int × Nat)) (p : Int × Nat), frB p r n = true → frB p r m = true := by
    intro r
    induction r with
    | nil => intro p _; rfl
    | cons q r ih =>
      intro p hf
      simp only [frB, Bool.and_eq_true, decide_eq_true_eq] at hf ⊢
      exact ⟨⟨by omega, hf.1.2⟩, ih q hf.2⟩
  rcases L with _ | ⟨p, r⟩
  · cases h
  · rw [fnB_ref] at h ⊢
    simp only [Bool.and_eq_true, beq_iff_eq, decide_eq_true_eq] at h ⊢
    exact ⟨h.1, by omega, key r p h.2.2⟩
theorem val_last {L : List (Int × Nat)} {n i : Int} (h : fnB L n = true) (hi : n - 1 ≤ i) : valA L i = valA L (n - 1) := by
  have key : ∀ (r : List (Int × Nat)) (p : Int × Nat) (v : Nat), frB p r n = true → vlF i r v = vlF (n - 1) r v := by
    intro r
    induction r with
    | nil => intro p v _; rfl
    | cons q r ih =>
      intro p v hf
      simp only [frB, Bool.and_eq_true, decide_eq_true_eq] at hf
      rw [vlF, vlF, if_pos (by omega), if_pos (by omega)]
      exact ih q _ hf.2
  rcases L with _ | ⟨p, r⟩
  · cases h
  · rw [fnB_ref] at h
    simp only [Bool.and_eq_true, beq_iff_eq, decide_eq_true_eq] at h
    rw [valA, valA, vlF, vlF, if_pos (by omega), if_pos (by omega)]
    exact key r p _ h.2.2
theorem ck_of {L : List (Int × Nat)} {n : Int} (h : fnB L n = true) (h1 : 1 ≤ n ∧ n ≤ 200) : ckT L n = 0 := by rw [ckT, if_pos h1, h]; rfl

set_option maxRecDepth 100000 in
set_option maxHeartbeats 3200000 in
theorem alive8_any (w : World) :
    Calls Try.prog 11 #[] w fun e w' => e = .returned (.bool true) ∧ Below w.heap.size w w' := by
  go_enter Try.func11, Try.ntmps11
  have hB := Below.refl w.heap.size w
  have b := Ext.al w (.cells #[.int .u64 7, .int .u64 7, .int .u64 0, .int .u64 0, .int .u64 0, .int .u64 7] 31)
  have hq_ := Blk.new w 31 #[.int .u64 7, .int .u64 7, .int .u64 0, .int .u64 0, .int .u64 0, .int .u64 7]
  replace hB := hB.trans (b.mono hB.size)
  clear b
  clear hq_
  have S1 : RdU (w.alloc (.cells #[.int .u64 7, .int .u64 7, .int .u64 0, .int .u64 0, .int .u64 0, .int .u64 7] 31)) (some ⟨w.heap.size, 0, none⟩) 6 [7, 7, 0, 0, 0, 7] := rdU_new w [7, 7, 0, 0, 0, 7] (by decide)
  go_wp2_with fail
  generalize w.alloc (.cells #[.int .u64 7, .int .u64 7, .int .u64 0, .int .u64 0, .int .u64 0, .int .u64 7] 31) = w1 at *
  have H1 := make_any _ 6 6 [7, 7, 0, 0, 0, 7] _ S1 (by omega)
  rw [show mkL [7, 7, 0, 0, 0, 7] = [(0, 7), (2, 0), (5, 7)] from by decide] at H1
  rw [show mkE [7, 7, 0, 0, 0, 7] = 0 from by decide] at H1
  rw [show ([(0, 7), (2, 0), (5, 7)] : List (Int × Nat)).length = 3 from rfl] at H1
  refine (H1).mono ?_
  rintro e w2 ⟨A2, c2, rfl, o2, b⟩
  have N2 := own_rdN o2 (by intro p hp; simp at hp; rcases hp with rfl | rfl | rfl <;> exact ⟨⟨by decide, by decide⟩, by decide⟩)
  clear o2
  replace S1 := S1.mv b
  replace hB := hB.trans (b.mono hB.size)
  clear b
  clear H1
  have b := Ext.al w2 (.cells #[.int .i64 0, .int .u64 7, .int .i64 2, .int .u64 0, .int .i64 5, .int .u64 7] 61)
  have hq_ := Blk.new w2 61 #[.int .i64 0, .int .u64 7, .int .i64 2, .int .u64 0, .int .i64 5, .int .u64 7]
  replace S1 := S1.mv b
  replace N2 := N2.mv b
  replace hB := hB.trans (b.mono hB.size)
  clear b
  clear hq_
  have S2 : RdN (w2.alloc (.cells #[.int .i64 0, .int .u64 7, .int .i64 2, .int .u64 0, .int .i64 5, .int .u64 7] 61)) (some ⟨w2.heap.size, 0, none⟩) 3 [(0, 7), (2, 0), (5, 7)] := rdN_new w2 [(0, 7), (2, 0), (5, 7)] (by intro p hp; simp at hp; rcases hp with rfl | rfl | rfl <;> exact ⟨⟨by decide, by decide⟩, by decide⟩)
  go_wp2_with fail
  generalize w2.alloc (.cells #[.int .i64 0, .int .u64 7, .int .i64 2, .int .u64 0, .int .i64 5, .int .u64 7] 61) = w3 at *
  generalize w2.heap.size = g_ at *
  have H2 := encode8_any _ 3 3 [(0, 7), (2, 0), (5, 7)] 6 _ S2 (by omega)
  rw [show ecL [(0, 7), (2, 0), (5, 7)] 6 = [3, 0, 7, 2, 0, 3, 7] from by decide] at H2
  rw [show ckT [(0, 7), (2, 0), (5, 7)] 6 = 0 from by decide] at H2
  rw [show ([3, 0, 7, 2, 0, 3, 7] : List UInt8).length = 7 from rfl] at H2
  refine (H2).mono ?_
  rintro e w4 ⟨A4, c4, rfl, o4, b⟩
  have R4 := own_rd o4
  clear o4
  replace S1 := S1.mv b
  replace N2 := N2.mv b
  replace S2 := S2.mv b
  replace hB := hB.trans (b.mono hB.size)
  clear b
  clear H2
  have b := Ext.al w4 (.cells #[.int .i64 0, .int .u64 7, .int .i64 2, .int .u64 0, .int .i64 5, .int .u64 7] 61)
  have hq_ := Blk.new w4 61 #[.int .i64 0, .int .u64 7, .int .i64 2, .int .u64 0, .int .i64 5, .int .u64 7]
  replace S1 := S1.mv b
  replace N2 := N2.mv b
  replace S2 := S2.mv b
  replace R4 := R4.mv b
  replace hB := hB.trans (b.mono hB.size)
  clear b
  clear hq_
  have S3 : RdN (w4.alloc (.cells #[.int .i64 0, .int .u64 7, .int .i64 2, .int .u64 0, .int .i64 5, .int .u64 7] 61)) (some ⟨w4.heap.size, 0, none⟩) 3 [(0, 7), (2, 0), (5, 7)] := rdN_new w4 [(0, 7), (2, 0), (5, 7)] (by intro p hp; simp at hp; rcases hp with rfl | rfl | rfl <;> exact ⟨⟨by decide, by decide⟩, by decide⟩)
  go_wp2_with fail
  generalize w4.alloc (.cells #[.int .i64 0, .int .u64 7, .int .i64 2, .int .u64 0, .int .i64 5, .int .u64 7] 61) = w5 at *
  generalize w4.heap.size = g_ at *
  refine (same8_any A2 3 c2 [(0, 7), (2, 0), (5, 7)] _ 3 3 [(0, 7), (2, 0), (5, 7)] _ N2 S3 (by omega)).mono ?_
  rintro e w6 ⟨rfl, b⟩
  rw [show decide ([(0, 7), (2, 0), (5, 7)] = ([(0, 7), (2, 0), (5, 7)] : List (Int × Nat))) = true from by decide]
  replace S1 := S1.mv b
  replace N2 := N2.mv b
  replace S2 := S2.mv b
  replace R4 := R4.mv b
  replace S3 := S3.mv b
  replace hB := hB.trans (b.mono hB.size)
  clear b
  clear S1 N2 S2 S3
  have K4 := cvS c4 R4
  have b := Ext.al w6 (.cells #[.int .u8 3, .int .u8 0, .int .u8 7, .int .u8 2, .int .u8 0, .int .u8 3, .int .u8 7] 5)
  have hq_ := Blk.new w6 5 #[.int .u8 3, .int .u8 0, .int .u8 7, .int .u8 2, .int .u8 0, .int .u8 3, .int .u8 7]
  replace R4 := R4.mv b
  replace hB := hB.trans (b.mono hB.size)
  clear b
  clear hq_
  have R5 : Rb (w6.alloc (.cells #[.int .u8 3, .int .u8 0, .int .u8 7, .int .u8 2, .int .u8 0, .int .u8 3, .int .u8 7] 5)) (some ⟨w6.heap.size, 0, none⟩) 7 [3, 0, 7, 2, 0, 3, 7] := reads_bytes w6 [3, 0, 7, 2, 0, 3, 7] _
  have K5 := cvS 7 R5
  generalize ([3, 0, 7, 2, 0, 3, 7] : List UInt8) = bl at K4 K5
  clear R4 R5
  have b := Ext.al (w6.alloc (.cells #[.int .u8 3, .int .u8 0, .int .u8 7, .int .u8 2, .int .u8 0, .int .u8 3, .int .u8 7] 5)) (.cells #[.int .i64 1, .int .u64 0] 61)
  have hq_ := Blk.new (w6.alloc (.cells #[.int .u8 3, .int .u8 0, .int .u8 7, .int .u8 2, .int .u8 0, .int .u8 3, .int .u8 7] 5)) 61 #[.int .i64 1, .int .u64 0]
  replace hB := hB.trans (b.mono hB.size)
  clear b
  clear hq_
  have S4 : RdN ((w6.alloc (.cells #[.int .u8 3, .int .u8 0, .int .u8 7, .int .u8 2, .int .u8 0, .int .u8 3, .int .u8 7] 5)).alloc (.cells #[.int .i64 1, .int .u64 0] 61)) (some ⟨(w6.alloc (.cells #[.int .u8 3, .int .u8 0, .int .u8 7, .int .u8 2, .int .u8 0, .int .u8 3, .int .u8 7] 5)).heap.size, 0, none⟩) 1 [(1, 0)] := rdN_new (w6.alloc (.cells #[.int .u8 3, .int .u8 0, .int .u8 7, .int .u8 2, .int .u8 0, .int .u8 3, .int .u8 7] 5)) [(1, 0)] (by intro p hp; simp at hp; rcases hp with rfl <;> exact ⟨⟨by decide, by decide⟩, by decide⟩)
  rw [alloc_size] at S4
  go_wp2_with fail
  generalize (w6.alloc (.cells #[.int .u8 3, .int .u8 0, .int .u8 7, .int .u8 2, .int .u8 0, .int .u8 3, .int .u8 7] 5)).alloc (.cells #[.int .i64 1, .int .u64 0] 61) = w7 at *
  clear K4 K5
  have H3 := check8_any _ 1 1 [(1, 0)] 6 _ S4 (by omega)
  rw [show ckT [(1, 0)] 6 = 8 from by decide] at H3
  refine (H3).mono ?_
  rintro e w8 ⟨rfl, b⟩
  replace S4 := S4.mv b
  replace hB := hB.trans (b.mono hB.size)
  clear b
  clear H3
  have b := Ext.al w8 (.cells #[.int .i64 0, .int .u64 7, .int .i64 2, .int .u64 7] 61)
  have hq_ := Blk.new w8 61 #[.int .i64 0, .int .u64 7, .int .i64 2, .int .u64 7]
  replace S4 := S4.mv b
  replace hB := hB.trans (b.mono hB.size)
  clear b
  clear hq_
  have S5 : RdN (w8.alloc (.cells #[.int .i64 0, .int .u64 7, .int .i64 2, .int .u64 7] 61)) (some ⟨w8.heap.size, 0, none⟩) 2 [(0, 7), (2, 7)] := rdN_new w8 [(0, 7), (2, 7)] (by intro p hp; simp at hp; rcases hp with rfl | rfl <;> exact ⟨⟨by decide, by decide⟩, by decide⟩)
  go_wp2_with fail
  generalize w8.alloc (.cells #[.int .i64 0, .int .u64 7, .int .i64 2, .int .u64 7] 61) = w9 at *
  generalize w8.heap.size = g_ at *
  have H4 := check8_any _ 2 2 [(0, 7), (2, 7)] 6 _ S5 (by omega)
  rw [show ckT [(0, 7), (2, 7)] 6 = 8 from by decide] at H4
  refine (H4).mono ?_
  rintro e w10 ⟨rfl, b⟩
  replace S4 := S4.mv b
  replace S5 := S5.mv b
  replace hB := hB.trans (b.mono hB.size)
  clear b
  clear H4
  go_wp2_with fail
  go_ret
  exact ⟨rfl, hB⟩

end Go.Proofs.Ytibkimmagiijnaa
