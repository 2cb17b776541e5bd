/- Regions lie apart; the walk of MemoryParts. Each states its conditions. -/
import Derived.Test.YtponceakelimeaaMem26
import Derived.Test.YtponceakelimeaaMemOpen
import Derived.Test.YtponceakelimeaaMemoryWrites
namespace Go.Proofs.Ytponceakelimeaa
open Go.RowKit Wire
set_option linter.unusedVariables false

/-- Regions that lie apart. -/
def Gap (L : List (Nat × List UInt8)) : Prop := L.Pairwise fun p q => p.1 + p.2.length < q.1
theorem fd_one {at_ n : Nat} {L : List (Nat × List UInt8)} {p : Nat × List UInt8} (hg : Gap L) (hp : p ∈ L) (h : hasB at_ n p = true) : fdR at_ n L = some ((p.2.drop (at_ - p.1)).take n) := by
  induction L with
  | nil => simp at hp
  | cons q L ih =>
    obtain ⟨h1, h2⟩ := List.pairwise_cons.1 hg
    rcases List.mem_cons.1 hp with rfl | hp
    · rw [fdR, if_pos h]
    · rw [fdR, if_neg, ih h2 hp]
      have := h1 p hp
      simp only [hasB, Bool.and_eq_true, decide_eq_true_eq] at h ⊢
      omega
theorem fd_ex {at_ n : Nat} {L : List (Nat × List UInt8)} (h : (fdR at_ n L).isSome = true) : ∃ p ∈ L, hasB at_ n p = true := by
  induction L with
  | nil => simp [fdR] at h
  | cons q L ih =>
    rw [fdR] at h
    by_cases hq : hasB at_ n q = true
    · exact ⟨q, by simp, hq⟩
    · rw [if_neg hq] at h
      obtain ⟨p, hp, h2⟩ := ih h
      exact ⟨p, by simp [hp], h2⟩
theorem stk_gap : ∀ (L : List (Nat × List UInt8)) (i : Nat), stkB i L = true → Gap L ∧ ∀ p ∈ L, 16777216 * (i + 1) ≤ p.1
  | [], i, _ => ⟨List.Pairwise.nil, by simp⟩
  | p :: L, i, h => by
    simp only [stkB, Bool.and_eq_true] at h
    obtain ⟨hf, h⟩ := h
    simp only [fitB, Bool.and_eq_true, decide_eq_true_eq] at hf
    obtain ⟨g1, g2⟩ := stk_gap L (i + 1) h
    refine ⟨List.pairwise_cons.2 ⟨fun q hq => ?_, g1⟩, fun q hq => ?_⟩
    · have := g2 q hq; omega
    · rcases List.mem_cons.1 hq with rfl | hq
      · omega
      · have := g2 q hq; omega
theorem all_gap {b : Nat} {l0 : List UInt8} {L : List (Nat × List UInt8)} (hh : hpB b l0.length = true) (hs : stB L = true) : Gap ((b, l0) :: L) := by
  simp only [hpB, fitB, Bool.and_eq_true, decide_eq_true_eq] at hh
  simp only [stB, Bool.and_eq_true] at hs
  obtain ⟨g1, g2⟩ := stk_gap L 0 hs.1
  refine List.pairwise_cons.2 ⟨fun q hq => ?_, g1⟩
  have := g2 q hq
  show b + l0.length < q.1
  omega
theorem by_at {b : Nat} {l0 : List UInt8} {L : List (Nat × List UInt8)} {at_ n : Nat} (hh : hpB b l0.length = true) (hs : stB L = true) (hn : n ≤ 4096) :
    byE b l0 L at_ (n : Int) = if at_ = 0 then 42 else if (fdR at_ n ((b, l0) :: L)).isSome then 0 else 16 := by
  unfold byE
  rw [hh, hs, Int.toNat_natCast, if_pos (by rfl), if_neg (by omega)]
theorem by_some {b : Nat} {l0 : List UInt8} {L : List (Nat × List UInt8)} {at_ n : Nat} (hh : hpB b l0.length = true) (hs : stB L = true) (hn : n ≤ 4096) (h0 : at_ ≠ 0) {p : Nat × List UInt8} (hp : p ∈ (b, l0) :: L) (h : hasB at_ n p = true) :
    byE b l0 L at_ (n : Int) = 0 ∧ byL b l0 L at_ (n : Int) = (p.2.drop (at_ - p.1)).take n := by
  have hf := fd_one (all_gap hh hs) hp h
  have he : byE b l0 L at_ (n : Int) = 0 := by rw [by_at hh hs hn, if_neg h0, hf]; rfl
  exact ⟨he, by rw [(by_len he).2, Int.toNat_natCast, fdL, hf]; rfl⟩
theorem by_parts {b : Nat} {l0 : List UInt8} {L : List (Nat × List UInt8)} {at_ n m : Nat} (hh : hpB b l0.length = true) (hs : stB L = true) (hn : n + m ≤ 4096) (hat : at_ < 18446744073709551616) (h : byE b l0 L at_ ((n + m : Nat) : Int) = 0) :
    byE b l0 L at_ (n : Int) = 0 ∧ byE b l0 L ((at_ + n) % 18446744073709551616) (m : Int) = 0 ∧ byL b l0 L at_ ((n + m : Nat) : Int) = byL b l0 L at_ (n : Int) ++ byL b l0 L ((at_ + n) % 18446744073709551616) (m : Int) := by
  rw [by_at hh hs hn] at h
  by_cases h0 : at_ = 0
  · rw [if_pos h0] at h; omega
  rw [if_neg h0] at h
  cases hf : (fdR at_ (n + m) ((b, l0) :: L)).isSome
  · rw [hf] at h; simp at h
  obtain ⟨p, hp, hb⟩ := fd_ex hf
  have hb2 := hb
  simp only [hasB, Bool.and_eq_true, decide_eq_true_eq] at hb2
  have hend : p.1 + p.2.length < 18446744073709551616 := by
    rcases List.mem_cons.1 hp with rfl | hp2
    · simp only [hpB, fitB, Bool.and_eq_true, decide_eq_true_eq] at hh
      show b + l0.length < _
      omega
    · have h16 := stB_bd hs
      have hg : ∀ (L : List (Nat × List UInt8)) (i : Nat), stkB i L = true → ∀ p ∈ L, p.1 ≤ 16777216 * (i + L.length) ∧ p.2.length ≤ 4096 := by
        intro L
        induction L with
        | nil => intro i _ p hp; simp at hp
        | cons q L ih =>
          intro i hq p hp
          simp only [stkB, Bool.and_eq_true] at hq
          obtain ⟨hq1, hq2⟩ := hq
          simp only [fitB, Bool.and_eq_true, decide_eq_true_eq] at hq1
          rcases List.mem_cons.1 hp with rfl | hp
          · simp only [List.length_cons]; omega
          · have := ih (i + 1) hq2 p hp
            simp only [List.length_cons]; omega
      simp only [stB, Bool.and_eq_true] at hs
      have := hg L 0 hs.1 p hp2
      omega
  have hmod : (at_ + n) % 18446744073709551616 = at_ + n := Nat.mod_eq_of_lt (by omega)
  rw [hmod]
  obtain ⟨_, a2⟩ := by_some hh hs hn h0 hp hb
  obtain ⟨b1, b2⟩ := by_some (n := n) hh hs (by omega) h0 hp (by simp only [hasB, Bool.and_eq_true, decide_eq_true_eq]; omega)
  obtain ⟨c1, c2⟩ := by_some (at_ := at_ + n) (n := m) hh hs (by omega) (by omega) hp (by simp only [hasB, Bool.and_eq_true, decide_eq_true_eq]; omega)
  refine ⟨b1, c1, ?_⟩
  rw [a2, b2, c2, List.take_add, List.drop_drop]
  congr 3
  omega
theorem str_app (a b : List UInt8) : ((⟨a.toArray⟩ : ByteArray) ++ (⟨b.toArray⟩ : ByteArray)) = ⟨(a ++ b).toArray⟩ := by
  apply ByteArray.ext
  simp

set_option maxRecDepth 100000 in
set_option maxHeartbeats 8000000 in
theorem memoryParts_walk (w : World) (b : Nat) (A0 : Option Addr) (n0 c0 : Nat) (l0 : List UInt8) (hr0 : Rb w A0 n0 l0) (hc0 : n0 ≤ c0 ∧ c0 ≤ 9223372036854775807) (hb : b < 18446744073709551616) (A : Option Addr) (m c : Nat) (L : List (Nat × List UInt8)) (hr : RdR w A m L) (hc : m ≤ c ∧ c ≤ 9223372036854775807) (at_ : Nat) (hat : at_ < 18446744073709551616) (n : Int) (hn : -9223372036854775808 ≤ n ∧ n ≤ 9223372036854775807) (q : Int) (hq : -9223372036854775808 ≤ q ∧ q ≤ 9223372036854775807) :
    Calls Try.prog 7 #[rgn b A0 n0 c0, .slice A m c, .int .u64 (at_ : Int), .int .i64 n, .int .i64 q] w fun e w' => e = .returned (.bool true) ∧ Below w.heap.size w w' := by
  have hl := hr0.len8
  subst hl
  have HR0 := Lib.hid hr0
  have HRS := Lib.hid hr
  have HLn := Lib.hid hr.1
  clear hr0 hr
  obtain ⟨g1, hg1⟩ : ∃ g1, grB [(b, l0)] = g1 := ⟨_, rfl⟩
  obtain ⟨g2, hg2⟩ : ∃ g2, grB L = g2 := ⟨_, rfl⟩
  have HG := Lib.hid (And.intro hg1 hg2)
  clear hg1 hg2
  have hB : Below w.heap.size w (w.alloc (.cells #[.int .u64 (b : Int), .slice A0 l0.length c0] 25)) := (Below.alloc (Below.refl w.heap.size w) (by simp <;> omega) (.cells #[.int .u64 (b : Int), .slice A0 l0.length c0] 25))
  have hk := Blk.new w 25 #[.int .u64 (b : Int), .slice A0 l0.length c0]
  go_enter Try.func7, Try.ntmps7
  have z1 : (w.alloc (.cells #[.int .u64 (b : Int), .slice A0 l0.length c0] 25)).cell? ⟨w.heap.size, 0, none⟩ = some (.int .u64 (b : Int)) := (hk.cell 0).trans rfl
  have z2 := hk.frozen 0
  have z3 : (w.alloc (.cells #[.int .u64 (b : Int), .slice A0 l0.length c0] 25)).cell? ⟨w.heap.size, 1, none⟩ = some (.slice A0 l0.length c0) := (hk.cell 1).trans rfl
  have z4 := hk.frozen 1
  have z5 := hk.lt
  go_wp2_with fail
  with_reducible refine (alive26_any _).mono ?_
  rintro e w1 ⟨rfl, bB⟩
  replace hk := Blk.via0 (g := w.heap.size) (t := 25) bB (by repeat (first | with_reducible exact hk | with_reducible (apply Blk.set_) | with_reducible (apply Blk.far; case hp => (simp <;> omega)) | with_reducible (apply Blk.alloc) | with_reducible (apply Blk.drew)))
  replace hk : Blk w1 w.heap.size 25 #[.int .u64 (b : Int), .slice A0 l0.length c0] := hk
  replace hB := Below.via (w := w) (by have hs_ := hB.size; repeat (first | with_reducible exact hB | with_reducible (refine Below.setCell ?_ (by simp <;> omega) _) | with_reducible (refine Below.alloc ?_ (by first | exact hs_ | (simp <;> omega)) _) | with_reducible (refine Below.drew ?_))) bB
  clear z1 z2 z3 z4 z5
  clear bB
  have z6 : w1.cell? ⟨w.heap.size, 0, none⟩ = some (.int .u64 (b : Int)) := (hk.cell 0).trans rfl
  have z7 := hk.frozen 0
  have z8 : w1.cell? ⟨w.heap.size, 1, none⟩ = some (.slice A0 l0.length c0) := (hk.cell 1).trans rfl
  have z9 := hk.frozen 1
  have z10 := hk.lt
  have S1 := rdR_one (HR0.out.mv hB) hc0 hb
  go_wp2_with fail
  refine (great26_any _ 1 1 [(b, l0)] _ S1 (by omega)).mono ?_
  rintro e wq ⟨rfl, rfl⟩
  rw [HG.out.1]
  clear S1
  cases g1
  rotate_left
  · go_wp2_with fail
    go_ret
    exact ⟨rfl, (by have hs_ := hB.size; repeat (first | with_reducible exact hB | with_reducible (refine Below.setCell ?_ (by simp <;> omega) _) | with_reducible (refine Below.alloc ?_ (by first | exact hs_ | (simp <;> omega)) _) | with_reducible (refine Below.drew ?_)))⟩
  go_wp2_with fail
  refine (great26_any A m c L _ (HRS.out.mv (by have hs_ := hB.size; repeat (first | with_reducible exact hB | with_reducible (refine Below.setCell ?_ (by simp <;> omega) _) | with_reducible (refine Below.alloc ?_ (by first | exact hs_ | (simp <;> omega)) _) | with_reducible (refine Below.drew ?_)))) (by omega)).mono ?_
  rintro e wq ⟨rfl, rfl⟩
  rw [HG.out.2]
  cases g2
  rotate_left
  · go_wp2_with fail
    go_ret
    exact ⟨rfl, (by have hs_ := hB.size; repeat (first | with_reducible exact hB | with_reducible (refine Below.setCell ?_ (by simp <;> omega) _) | with_reducible (refine Below.alloc ?_ (by first | exact hs_ | (simp <;> omega)) _) | with_reducible (refine Below.drew ?_)))⟩
  have hm : m ≤ 1000000 := by have := (grB_bd HG.out.2).1; have := HLn.out; omega
  go_wp2_with fail
  with_reducible refine (heap26_any b A0 l0.length c0 _).mono ?_
  rintro e w2 ⟨rfl, bB⟩
  replace hk := Blk.via0 (g := w.heap.size) (t := 25) bB (by repeat (first | with_reducible exact hk | with_reducible (apply Blk.set_) | with_reducible (apply Blk.far; case hp => (simp <;> omega)) | with_reducible (apply Blk.alloc) | with_reducible (apply Blk.drew)))
  replace hk : Blk w2 w.heap.size 25 #[.int .u64 (b : Int), .slice A0 l0.length c0] := hk
  replace hB := Below.via (w := w) (by have hs_ := hB.size; repeat (first | with_reducible exact hB | with_reducible (refine Below.setCell ?_ (by simp <;> omega) _) | with_reducible (refine Below.alloc ?_ (by first | exact hs_ | (simp <;> omega)) _) | with_reducible (refine Below.drew ?_))) bB
  clear z6 z7 z8 z9 z10
  clear bB
  have z11 : w2.cell? ⟨w.heap.size, 0, none⟩ = some (.int .u64 (b : Int)) := (hk.cell 0).trans rfl
  have z12 := hk.frozen 0
  have z13 : w2.cell? ⟨w.heap.size, 1, none⟩ = some (.slice A0 l0.length c0) := (hk.cell 1).trans rfl
  have z14 := hk.frozen 1
  have z15 := hk.lt
  cases hhp : hpB b l0.length
  · go_wp2_with fail
    go_ret
    exact ⟨rfl, (by have hs_ := hB.size; repeat (first | with_reducible exact hB | with_reducible (refine Below.setCell ?_ (by simp <;> omega) _) | with_reducible (refine Below.alloc ?_ (by first | exact hs_ | (simp <;> omega)) _) | with_reducible (refine Below.drew ?_)))⟩
  have HHP := Lib.hid hhp
  clear hhp
  go_wp2_with fail
  refine (stacks26_any A m c L _ (HRS.out.mv (by have hs_ := hB.size; repeat (first | with_reducible exact hB | with_reducible (refine Below.setCell ?_ (by simp <;> omega) _) | with_reducible (refine Below.alloc ?_ (by first | exact hs_ | (simp <;> omega)) _) | with_reducible (refine Below.drew ?_))))).mono ?_
  rintro e wq ⟨rfl, rfl⟩
  cases hst : stB L
  · go_wp2_with fail
    go_ret
    exact ⟨rfl, (by have hs_ := hB.size; repeat (first | with_reducible exact hB | with_reducible (refine Below.setCell ?_ (by simp <;> omega) _) | with_reducible (refine Below.alloc ?_ (by first | exact hs_ | (simp <;> omega)) _) | with_reducible (refine Below.drew ?_)))⟩
  have HST := Lib.hid hst
  clear hst
  by_cases hq_ : n < 0
  · go_wp2_with fail
    go_ret
    exact ⟨rfl, (by have hs_ := hB.size; repeat (first | with_reducible exact hB | with_reducible (refine Below.setCell ?_ (by simp <;> omega) _) | with_reducible (refine Below.alloc ?_ (by first | exact hs_ | (simp <;> omega)) _) | with_reducible (refine Below.drew ?_)))⟩
  by_cases hq_ : q < 0
  · go_wp2_with fail
    go_ret
    exact ⟨rfl, (by have hs_ := hB.size; repeat (first | with_reducible exact hB | with_reducible (refine Below.setCell ?_ (by simp <;> omega) _) | with_reducible (refine Below.alloc ?_ (by first | exact hs_ | (simp <;> omega)) _) | with_reducible (refine Below.drew ?_)))⟩
  by_cases hq_ : 4096 < n
  · go_wp2_with fail
    go_ret
    exact ⟨rfl, (by have hs_ := hB.size; repeat (first | with_reducible exact hB | with_reducible (refine Below.setCell ?_ (by simp <;> omega) _) | with_reducible (refine Below.alloc ?_ (by first | exact hs_ | (simp <;> omega)) _) | with_reducible (refine Below.drew ?_)))⟩
  by_cases hq_ : 4096 - n < q
  · go_wp2_with fail
    go_ret
    exact ⟨rfl, (by have hs_ := hB.size; repeat (first | with_reducible exact hB | with_reducible (refine Below.setCell ?_ (by simp <;> omega) _) | with_reducible (refine Below.alloc ?_ (by first | exact hs_ | (simp <;> omega)) _) | with_reducible (refine Below.drew ?_)))⟩
  obtain ⟨N, rfl⟩ : ∃ N : Nat, n = (N : Int) := ⟨n.toNat, by omega⟩
  obtain ⟨M, rfl⟩ : ∃ M : Nat, q = (M : Int) := ⟨q.toNat, by omega⟩
  have hNM : N + M ≤ 4096 := by omega
  have hPA := fun h => by_parts (b := b) (l0 := l0) (L := L) (at_ := at_) (n := N) (m := M) HHP.out HST.out hNM hat h
  obtain ⟨a3, ha3⟩ : ∃ a3, (at_ + N) % 18446744073709551616 = a3 := ⟨_, rfl⟩
  have ha3l : a3 < 18446744073709551616 := by omega
  have hw3 : IntKind.u64.wrap ((at_ : Int) + (N : Int)) = (a3 : Int) := by rw [IntKind.wrap_u64]; omega
  have hw4 : IntKind.u64.wrap (N : Int) = (N : Int) := by rw [IntKind.wrap_u64]; omega
  rw [ha3] at hPA
  obtain ⟨NM, hNM2⟩ : ∃ NM, N + M = NM := ⟨_, rfl⟩
  have hNMi : (N : Int) + (M : Int) = (NM : Int) := by omega
  rw [hNM2] at hPA
  have HB1 := Lib.hid (fun W (h0 : Rb W A0 l0.length l0) (h1 : RdR W A m L) => bytes_any b A0 l0.length c0 l0 A m c L at_ (NM : Int) W h0 hc0 hb h1 hm hat)
  have HB2 := Lib.hid (fun W (h0 : Rb W A0 l0.length l0) (h1 : RdR W A m L) => bytes_any b A0 l0.length c0 l0 A m c L at_ (N : Int) W h0 hc0 hb h1 hm hat)
  have HB3 := Lib.hid (fun W (h0 : Rb W A0 l0.length l0) (h1 : RdR W A m L) => bytes_any b A0 l0.length c0 l0 A m c L a3 (M : Int) W h0 hc0 hb h1 hm ha3l)
  have HB8 := Lib.hid (fun W (h0 : Rb W A0 l0.length l0) (h1 : RdR W A m L) => bytes_any b A0 l0.length c0 l0 A m c L at_ 8 W h0 hc0 hb h1 hm hat)
  unfold ByP at HB1 HB2 HB3 HB8
  have hWO : woE b l0 L at_ = (if byE b l0 L at_ 8 ≠ 0 then byE b l0 L at_ 8 else if at_ % 8 ≠ 0 then 16 else 0) := rfl
  have hWN : woN b l0 L at_ = if woE b l0 L at_ = 0 then unl (byL b l0 L at_ 8) else 0 := rfl
  have hL8 := fun h => (by_len (b := b) (l0 := l0) (L := L) (at_ := at_) (n := 8) h).1
  have hL2 := fun h => (by_len (b := b) (l0 := l0) (L := L) (at_ := at_) (n := (N : Int)) h).1
  have hL3 := fun h => (by_len (b := b) (l0 := l0) (L := L) (at_ := a3) (n := (M : Int)) h).1
  have HWC := Lib.hid (fun W (h0 : Rb W A0 l0.length l0) (h1 : RdR W A m L) => word_any b A0 l0.length c0 l0 A m c L at_ W h0 hc0 hb h1 hm hat)
  obtain ⟨f1, hf1⟩ : ∃ f, byE b l0 L at_ (NM : Int) = f := ⟨_, rfl⟩
  obtain ⟨T1, hT1⟩ : ∃ T, byL b l0 L at_ (NM : Int) = T := ⟨_, rfl⟩
  obtain ⟨f2, hf2⟩ : ∃ f, byE b l0 L at_ (N : Int) = f := ⟨_, rfl⟩
  obtain ⟨T2, hT2⟩ : ∃ T, byL b l0 L at_ (N : Int) = T := ⟨_, rfl⟩
  obtain ⟨f3, hf3⟩ : ∃ f, byE b l0 L a3 (M : Int) = f := ⟨_, rfl⟩
  obtain ⟨T3, hT3⟩ : ∃ T, byL b l0 L a3 (M : Int) = T := ⟨_, rfl⟩
  obtain ⟨f8, hf8⟩ : ∃ f, byE b l0 L at_ 8 = f := ⟨_, rfl⟩
  obtain ⟨T8, hT8⟩ : ∃ T, byL b l0 L at_ 8 = T := ⟨_, rfl⟩
  obtain ⟨fw, hfw⟩ : ∃ f, woE b l0 L at_ = f := ⟨_, rfl⟩
  obtain ⟨xw, hxw⟩ : ∃ f, woN b l0 L at_ = f := ⟨_, rfl⟩
  rw [hf1, hT1] at HB1
  rw [hf2, hT2] at HB2
  rw [hf3, hT3] at HB3
  rw [hf8, hT8] at HB8
  rw [hfw, hxw] at HWC
  rw [hf1, hf2, hf3, hT1, hT2, hT3] at hPA
  rw [hfw, hf8] at hWO
  rw [hfw, hxw, hT8] at hWN
  rw [hf8, hT8] at hL8
  rw [hf2, hT2] at hL2
  rw [hf3, hT3] at hL3
  have HL2 := Lib.hid hL2
  have HL3 := Lib.hid hL3
  have HPA := Lib.hid hPA
  have HWO := Lib.hid hWO
  have HWN := Lib.hid hWN
  have HL8 := Lib.hid hL8
  clear hf1 hT1 hf2 hT2 hf3 hT3 hf8 hT8 hfw hxw hPA hWO hWN hL8 hL2 hL3 ha3 hNM2
  go_wp2_with fail
  with_reducible refine (HB1.out _ (HR0.out.mv (by have hs_ := hB.size; repeat (first | with_reducible exact hB | with_reducible (refine Below.setCell ?_ (by simp <;> omega) _) | with_reducible (refine Below.alloc ?_ (by first | exact hs_ | (simp <;> omega)) _) | with_reducible (refine Below.drew ?_)))) (HRS.out.mv (by have hs_ := hB.size; repeat (first | with_reducible exact hB | with_reducible (refine Below.setCell ?_ (by simp <;> omega) _) | with_reducible (refine Below.alloc ?_ (by first | exact hs_ | (simp <;> omega)) _) | with_reducible (refine Below.drew ?_))))).mono ?_
  rintro e w3 ⟨A1, c1, rfl, o1, bB⟩
  have ne_o1_hk : (Value.slice A1 T1.length c1).ownBlock ≠ some w.heap.size := own_not_lt o1 (by first | omega | (simp <;> omega))
  replace o1 := own_low o1 (show w.heap.size ≤ _ from by have hs_ := hB.size; simp <;> omega)
  replace hk := Blk.via0 (g := w.heap.size) (t := 25) bB (by repeat (first | with_reducible exact hk | with_reducible (apply Blk.set_) | with_reducible (apply Blk.far; case hp => (simp <;> omega)) | with_reducible (apply Blk.alloc) | with_reducible (apply Blk.drew)))
  replace hk : Blk w3 w.heap.size 25 #[.int .u64 (b : Int), .slice A0 l0.length c0] := hk
  replace hB := Below.via (w := w) (by have hs_ := hB.size; repeat (first | with_reducible exact hB | with_reducible (refine Below.setCell ?_ (by simp <;> omega) _) | with_reducible (refine Below.alloc ?_ (by first | exact hs_ | (simp <;> omega)) _) | with_reducible (refine Below.drew ?_))) bB
  clear z11 z12 z13 z14 z15
  clear bB
  have z16 : w3.cell? ⟨w.heap.size, 0, none⟩ = some (.int .u64 (b : Int)) := (hk.cell 0).trans rfl
  have z17 := hk.frozen 0
  have z18 : w3.cell? ⟨w.heap.size, 1, none⟩ = some (.slice A0 l0.length c0) := (hk.cell 1).trans rfl
  have z19 := hk.frozen 1
  have z20 := hk.lt
  go_wp2_with fail
  with_reducible refine (HB2.out _ (HR0.out.mv (by have hs_ := hB.size; repeat (first | with_reducible exact hB | with_reducible (refine Below.setCell ?_ (by simp <;> omega) _) | with_reducible (refine Below.alloc ?_ (by first | exact hs_ | (simp <;> omega)) _) | with_reducible (refine Below.drew ?_)))) (HRS.out.mv (by have hs_ := hB.size; repeat (first | with_reducible exact hB | with_reducible (refine Below.setCell ?_ (by simp <;> omega) _) | with_reducible (refine Below.alloc ?_ (by first | exact hs_ | (simp <;> omega)) _) | with_reducible (refine Below.drew ?_))))).mono ?_
  rintro e w4 ⟨A2, c2, rfl, o2, bB⟩
  have ne_o2_hk : (Value.slice A2 T2.length c2).ownBlock ≠ some w.heap.size := own_not_lt o2 (by first | omega | (simp <;> omega))
  replace o2 := own_low o2 (show w.heap.size ≤ _ from by have hs_ := hB.size; simp <;> omega)
  replace hk := Blk.via0 (g := w.heap.size) (t := 25) bB (by repeat (first | with_reducible exact hk | with_reducible (apply Blk.set_) | with_reducible (apply Blk.far; case hp => (simp <;> omega)) | with_reducible (apply Blk.alloc) | with_reducible (apply Blk.drew)))
  replace hk : Blk w4 w.heap.size 25 #[.int .u64 (b : Int), .slice A0 l0.length c0] := hk
  replace o1 := own_call (by repeat (first | with_reducible exact o1 | (with_reducible apply own_set_; case hne => first | exact ne_o1_hk) | with_reducible (apply own_alloc_) | with_reducible (apply own_drew_))) bB
  replace hB := Below.via (w := w) (by have hs_ := hB.size; repeat (first | with_reducible exact hB | with_reducible (refine Below.setCell ?_ (by simp <;> omega) _) | with_reducible (refine Below.alloc ?_ (by first | exact hs_ | (simp <;> omega)) _) | with_reducible (refine Below.drew ?_))) bB
  clear z16 z17 z18 z19 z20
  clear bB
  have z21 : w4.cell? ⟨w.heap.size, 0, none⟩ = some (.int .u64 (b : Int)) := (hk.cell 0).trans rfl
  have z22 := hk.frozen 0
  have z23 : w4.cell? ⟨w.heap.size, 1, none⟩ = some (.slice A0 l0.length c0) := (hk.cell 1).trans rfl
  have z24 := hk.frozen 1
  have z25 := hk.lt
  go_wp2_with fail
  with_reducible refine (HB3.out _ (HR0.out.mv (by have hs_ := hB.size; repeat (first | with_reducible exact hB | with_reducible (refine Below.setCell ?_ (by simp <;> omega) _) | with_reducible (refine Below.alloc ?_ (by first | exact hs_ | (simp <;> omega)) _) | with_reducible (refine Below.drew ?_)))) (HRS.out.mv (by have hs_ := hB.size; repeat (first | with_reducible exact hB | with_reducible (refine Below.setCell ?_ (by simp <;> omega) _) | with_reducible (refine Below.alloc ?_ (by first | exact hs_ | (simp <;> omega)) _) | with_reducible (refine Below.drew ?_))))).mono ?_
  rintro e w5 ⟨A3, c3, rfl, o3, bB⟩
  have ne_o3_hk : (Value.slice A3 T3.length c3).ownBlock ≠ some w.heap.size := own_not_lt o3 (by first | omega | (simp <;> omega))
  replace o3 := own_low o3 (show w.heap.size ≤ _ from by have hs_ := hB.size; simp <;> omega)
  replace hk := Blk.via0 (g := w.heap.size) (t := 25) bB (by repeat (first | with_reducible exact hk | with_reducible (apply Blk.set_) | with_reducible (apply Blk.far; case hp => (simp <;> omega)) | with_reducible (apply Blk.alloc) | with_reducible (apply Blk.drew)))
  replace hk : Blk w5 w.heap.size 25 #[.int .u64 (b : Int), .slice A0 l0.length c0] := hk
  replace o1 := own_call (by repeat (first | with_reducible exact o1 | (with_reducible apply own_set_; case hne => first | exact ne_o1_hk) | with_reducible (apply own_alloc_) | with_reducible (apply own_drew_))) bB
  replace o2 := own_call (by repeat (first | with_reducible exact o2 | (with_reducible apply own_set_; case hne => first | exact ne_o2_hk) | with_reducible (apply own_alloc_) | with_reducible (apply own_drew_))) bB
  replace hB := Below.via (w := w) (by have hs_ := hB.size; repeat (first | with_reducible exact hB | with_reducible (refine Below.setCell ?_ (by simp <;> omega) _) | with_reducible (refine Below.alloc ?_ (by first | exact hs_ | (simp <;> omega)) _) | with_reducible (refine Below.drew ?_))) bB
  clear z21 z22 z23 z24 z25
  clear bB
  have K1 := cvS c1 (own_rd o1)
  have K2 := cvS c2 (own_rd o2)
  have K3 := cvS c3 (own_rd o3)
  have X23 := str_app T2 T3
  by_cases hf1 : f1 = 0
  rotate_left
  · have d1 : (f1 == 0) = false := by rw [beq_eq_false_iff_ne]; exact hf1
    clear hf1
    have z26 : w5.cell? ⟨w.heap.size, 0, none⟩ = some (.int .u64 (b : Int)) := (hk.cell 0).trans rfl
    have z27 := hk.frozen 0
    have z28 : w5.cell? ⟨w.heap.size, 1, none⟩ = some (.slice A0 l0.length c0) := (hk.cell 1).trans rfl
    have z29 := hk.frozen 1
    have z30 := hk.lt
    go_wp2_with fail
    clear K1 K2 K3
    clear o1 o2 o3
    with_reducible refine (HWC.out _ (HR0.out.mv (by have hs_ := hB.size; repeat (first | with_reducible exact hB | with_reducible (refine Below.setCell ?_ (by simp <;> omega) _) | with_reducible (refine Below.alloc ?_ (by first | exact hs_ | (simp <;> omega)) _) | with_reducible (refine Below.drew ?_)))) (HRS.out.mv (by have hs_ := hB.size; repeat (first | with_reducible exact hB | with_reducible (refine Below.setCell ?_ (by simp <;> omega) _) | with_reducible (refine Below.alloc ?_ (by first | exact hs_ | (simp <;> omega)) _) | with_reducible (refine Below.drew ?_))))).mono ?_
    rintro e w6 ⟨rfl, bB⟩
    replace hk := Blk.via0 (g := w.heap.size) (t := 25) bB (by repeat (first | with_reducible exact hk | with_reducible (apply Blk.set_) | with_reducible (apply Blk.far; case hp => (simp <;> omega)) | with_reducible (apply Blk.alloc) | with_reducible (apply Blk.drew)))
    replace hk : Blk w6 w.heap.size 25 #[.int .u64 (b : Int), .slice A0 l0.length c0] := hk
    replace hB := Below.via (w := w) (by have hs_ := hB.size; repeat (first | with_reducible exact hB | with_reducible (refine Below.setCell ?_ (by simp <;> omega) _) | with_reducible (refine Below.alloc ?_ (by first | exact hs_ | (simp <;> omega)) _) | with_reducible (refine Below.drew ?_))) bB
    clear z26 z27 z28 z29 z30
    clear bB
    have z31 : w6.cell? ⟨w.heap.size, 0, none⟩ = some (.int .u64 (b : Int)) := (hk.cell 0).trans rfl
    have z32 := hk.frozen 0
    have z33 : w6.cell? ⟨w.heap.size, 1, none⟩ = some (.slice A0 l0.length c0) := (hk.cell 1).trans rfl
    have z34 := hk.frozen 1
    have z35 := hk.lt
    go_wp2_with fail
    with_reducible refine (HB8.out _ (HR0.out.mv (by have hs_ := hB.size; repeat (first | with_reducible exact hB | with_reducible (refine Below.setCell ?_ (by simp <;> omega) _) | with_reducible (refine Below.alloc ?_ (by first | exact hs_ | (simp <;> omega)) _) | with_reducible (refine Below.drew ?_)))) (HRS.out.mv (by have hs_ := hB.size; repeat (first | with_reducible exact hB | with_reducible (refine Below.setCell ?_ (by simp <;> omega) _) | with_reducible (refine Below.alloc ?_ (by first | exact hs_ | (simp <;> omega)) _) | with_reducible (refine Below.drew ?_))))).mono ?_
    rintro e w7 ⟨A8, c8, rfl, o8, bB⟩
    have ne_o8_hk : (Value.slice A8 T8.length c8).ownBlock ≠ some w.heap.size := own_not_lt o8 (by first | omega | (simp <;> omega))
    replace o8 := own_low o8 (show w.heap.size ≤ _ from by have hs_ := hB.size; simp <;> omega)
    replace hk := Blk.via0 (g := w.heap.size) (t := 25) bB (by repeat (first | with_reducible exact hk | with_reducible (apply Blk.set_) | with_reducible (apply Blk.far; case hp => (simp <;> omega)) | with_reducible (apply Blk.alloc) | with_reducible (apply Blk.drew)))
    replace hk : Blk w7 w.heap.size 25 #[.int .u64 (b : Int), .slice A0 l0.length c0] := hk
    replace hB := Below.via (w := w) (by have hs_ := hB.size; repeat (first | with_reducible exact hB | with_reducible (refine Below.setCell ?_ (by simp <;> omega) _) | with_reducible (refine Below.alloc ?_ (by first | exact hs_ | (simp <;> omega)) _) | with_reducible (refine Below.drew ?_))) bB
    clear z31 z32 z33 z34 z35
    clear bB
    have z36 : w7.cell? ⟨w.heap.size, 0, none⟩ = some (.int .u64 (b : Int)) := (hk.cell 0).trans rfl
    have z37 := hk.frozen 0
    have z38 : w7.cell? ⟨w.heap.size, 1, none⟩ = some (.slice A0 l0.length c0) := (hk.cell 1).trans rfl
    have z39 := hk.frozen 1
    have z40 := hk.lt
    by_cases hfw : fw = 0
    rotate_left
    · have dw : (fw != 0) = true := by rw [bne_iff_ne]; exact hfw
      by_cases hf8 : f8 = 0
      · have h8 : at_ % 8 ≠ 0 := by
          intro h
          have := HWO.out
          rw [if_neg (by simp [hf8]), if_neg (by omega)] at this
          exact hfw this
        have d8 : (f8 != 0) = false := by rw [bne_eq_false_iff_eq]; exact hf8
        have d9 : ((at_ : Int) % 8 != 0) = true := by rw [bne_iff_ne]; omega
        clear hf8 hfw
        go_wp2_with fail
        go_ret
        exact ⟨rfl, (by have hs_ := hB.size; repeat (first | with_reducible exact hB | with_reducible (refine Below.setCell ?_ (by simp <;> omega) _) | with_reducible (refine Below.alloc ?_ (by first | exact hs_ | (simp <;> omega)) _) | with_reducible (refine Below.drew ?_)))⟩
      have d8 : (f8 != 0) = true := by rw [bne_iff_ne]; exact hf8
      clear hf8 hfw
      go_wp2_with fail
      go_ret
      exact ⟨rfl, (by have hs_ := hB.size; repeat (first | with_reducible exact hB | with_reducible (refine Below.setCell ?_ (by simp <;> omega) _) | with_reducible (refine Below.alloc ?_ (by first | exact hs_ | (simp <;> omega)) _) | with_reducible (refine Below.drew ?_)))⟩
    have hb8 : f8 = 0 ∧ at_ % 8 = 0 := by
      have h := HWO.out
      by_cases h1 : f8 ≠ 0
      · rw [if_pos h1] at h; omega
      · rw [if_neg h1] at h
        by_cases h2 : at_ % 8 ≠ 0
        · rw [if_pos h2] at h; omega
        · omega
    have hl8 : T8.length = 8 := HL8.out hb8.1
    have hxw : xw = unl T8 := by have := HWN.out; rw [if_pos hfw] at this; exact this
    have dw : (fw != 0) = false := by rw [bne_eq_false_iff_eq]; exact hfw
    have d8 : (f8 != 0) = false := by rw [bne_eq_false_iff_eq]; exact hb8.1
    have d9 : ((at_ : Int) % 8 != 0) = false := by rw [bne_eq_false_iff_eq]; omega
    have dl : ((T8.length : Int) != 8) = false := by rw [bne_eq_false_iff_eq]; omega
    have HX := Lib.hid hxw
    have HL := Lib.hid hl8
    have R8 := own_rd o8
    have hul := unl_lt T8
    rw [hl8] at hul
    clear hxw hl8 hb8 hfw o8
    go_wp2_with fail
    clear z36 z37 z38 z39 z40
    go_loopw [22, 23] (fun s i wr => ∃ j : Nat, j ≤ 8 ∧ i = .int .i64 ((j : Int) - 1) ∧ s = .int .u64 ((unl (T8.drop j) : Nat) : Int) ∧ w7 = wr) (fun _ i _ => (intOf i + 1).toNat)
    case atStart => exact ⟨8, by omega, rfl, by rw [List.drop_of_length_le (by rw [HL.out]; omega)]; rfl, rfl⟩
    case round =>
      obtain ⟨j, hj, rfl, rfl, rfl⟩ := hrel
      rcases j with _ | j
      · rw [List.drop_zero, ← HX.out]
        have dx : ¬ (0 : Int) ≤ ((0 : Nat) : Int) - 1 := by omega
        go_wp2_with fail
        go_ret
        exact ⟨rfl, hB⟩
      · obtain ⟨ad, cb, rfl, hb8, hc8, hcell⟩ := R8.byte (k := j) (by rw [HL.out]; omega)
        have hjl : j < T8.length := by rw [HL.out]; omega
        have hud := unl_drop hc8
        have hlt := unl_lt (T8.drop (j + 1))
        have hlt2 := unl_lt (T8.drop j)
        rw [List.length_drop, HL.out] at hlt hlt2
        have hp : 256 ^ (8 - j) ≤ 256 ^ 8 := Nat.pow_le_pow_right (by omega) (by omega)
        have HU := Lib.hid hud
        have hcc := cb.toNat_lt
        obtain ⟨z, hz⟩ : ∃ z, unl (T8.drop (j + 1)) = z := ⟨_, rfl⟩
        rw [hz] at HU ⊢
        have h256 : (256 : Nat) ^ 8 = 18446744073709551616 := by decide
        have hz1 : z * 256 + cb.toNat < 18446744073709551616 := Nat.lt_of_le_of_lt (Nat.le_of_eq HU.out.symm) (Nat.lt_of_lt_of_le hlt2 (by rw [← h256]; exact hp))
        clear h256
        have e1 : (((j + 1 : Nat) : Int) - 1) = (j : Int) := by omega
        rw [e1]
        have e2 : IntKind.u64.wrap ((z : Int) * 256) = (z : Int) * 256 := by rw [IntKind.wrap_u64]; omega
        have e3 : IntKind.u64.wrap ((z : Int) * 256 + (cb.toNat : Int)) = (z : Int) * 256 + (cb.toNat : Int) := by rw [IntKind.wrap_u64]; omega
        have e4 : IntKind.u64.wrap ((cb.toNat : Int)) = (cb.toNat : Int) := by rw [IntKind.wrap_u64]; omega
        clear hz hud hlt hlt2 hp e1
        go_wp2_with fail
        go_roundw
        case rel => exact ⟨j, by omega, rfl, by rw [HU.out]; go_num, trivial⟩
        case measure => simp [intOf] <;> omega
  obtain ⟨g1, g2, g3⟩ := HPA.out hf1
  have d1 : (f1 == 0) = true := by rw [beq_iff_eq]; exact hf1
  have hs23 : T2.length + T3.length ≤ 8192 := by
    have h2 := HL2.out g1
    have h3 := HL3.out g2
    rw [Int.toNat_natCast] at h2 h3
    omega
  subst g1 g2
  rw [← g3] at X23
  clear hf1 g3
  have z26 : w5.cell? ⟨w.heap.size, 0, none⟩ = some (.int .u64 (b : Int)) := (hk.cell 0).trans rfl
  have z27 := hk.frozen 0
  have z28 : w5.cell? ⟨w.heap.size, 1, none⟩ = some (.slice A0 l0.length c0) := (hk.cell 1).trans rfl
  have z29 := hk.frozen 1
  have z30 := hk.lt
  go_wp2_with fail
  clear K1 K2 K3
  clear o1 o2 o3
  with_reducible refine (HWC.out _ (HR0.out.mv (by have hs_ := hB.size; repeat (first | with_reducible exact hB | with_reducible (refine Below.setCell ?_ (by simp <;> omega) _) | with_reducible (refine Below.alloc ?_ (by first | exact hs_ | (simp <;> omega)) _) | with_reducible (refine Below.drew ?_)))) (HRS.out.mv (by have hs_ := hB.size; repeat (first | with_reducible exact hB | with_reducible (refine Below.setCell ?_ (by simp <;> omega) _) | with_reducible (refine Below.alloc ?_ (by first | exact hs_ | (simp <;> omega)) _) | with_reducible (refine Below.drew ?_))))).mono ?_
  rintro e w6 ⟨rfl, bB⟩
  replace hk := Blk.via0 (g := w.heap.size) (t := 25) bB (by repeat (first | with_reducible exact hk | with_reducible (apply Blk.set_) | with_reducible (apply Blk.far; case hp => (simp <;> omega)) | with_reducible (apply Blk.alloc) | with_reducible (apply Blk.drew)))
  replace hk : Blk w6 w.heap.size 25 #[.int .u64 (b : Int), .slice A0 l0.length c0] := hk
  replace hB := Below.via (w := w) (by have hs_ := hB.size; repeat (first | with_reducible exact hB | with_reducible (refine Below.setCell ?_ (by simp <;> omega) _) | with_reducible (refine Below.alloc ?_ (by first | exact hs_ | (simp <;> omega)) _) | with_reducible (refine Below.drew ?_))) bB
  clear z26 z27 z28 z29 z30
  clear bB
  have z31 : w6.cell? ⟨w.heap.size, 0, none⟩ = some (.int .u64 (b : Int)) := (hk.cell 0).trans rfl
  have z32 := hk.frozen 0
  have z33 : w6.cell? ⟨w.heap.size, 1, none⟩ = some (.slice A0 l0.length c0) := (hk.cell 1).trans rfl
  have z34 := hk.frozen 1
  have z35 := hk.lt
  go_wp2_with fail
  with_reducible refine (HB8.out _ (HR0.out.mv (by have hs_ := hB.size; repeat (first | with_reducible exact hB | with_reducible (refine Below.setCell ?_ (by simp <;> omega) _) | with_reducible (refine Below.alloc ?_ (by first | exact hs_ | (simp <;> omega)) _) | with_reducible (refine Below.drew ?_)))) (HRS.out.mv (by have hs_ := hB.size; repeat (first | with_reducible exact hB | with_reducible (refine Below.setCell ?_ (by simp <;> omega) _) | with_reducible (refine Below.alloc ?_ (by first | exact hs_ | (simp <;> omega)) _) | with_reducible (refine Below.drew ?_))))).mono ?_
  rintro e w7 ⟨A8, c8, rfl, o8, bB⟩
  have ne_o8_hk : (Value.slice A8 T8.length c8).ownBlock ≠ some w.heap.size := own_not_lt o8 (by first | omega | (simp <;> omega))
  replace o8 := own_low o8 (show w.heap.size ≤ _ from by have hs_ := hB.size; simp <;> omega)
  replace hk := Blk.via0 (g := w.heap.size) (t := 25) bB (by repeat (first | with_reducible exact hk | with_reducible (apply Blk.set_) | with_reducible (apply Blk.far; case hp => (simp <;> omega)) | with_reducible (apply Blk.alloc) | with_reducible (apply Blk.drew)))
  replace hk : Blk w7 w.heap.size 25 #[.int .u64 (b : Int), .slice A0 l0.length c0] := hk
  replace hB := Below.via (w := w) (by have hs_ := hB.size; repeat (first | with_reducible exact hB | with_reducible (refine Below.setCell ?_ (by simp <;> omega) _) | with_reducible (refine Below.alloc ?_ (by first | exact hs_ | (simp <;> omega)) _) | with_reducible (refine Below.drew ?_))) bB
  clear z31 z32 z33 z34 z35
  clear bB
  have z36 : w7.cell? ⟨w.heap.size, 0, none⟩ = some (.int .u64 (b : Int)) := (hk.cell 0).trans rfl
  have z37 := hk.frozen 0
  have z38 : w7.cell? ⟨w.heap.size, 1, none⟩ = some (.slice A0 l0.length c0) := (hk.cell 1).trans rfl
  have z39 := hk.frozen 1
  have z40 := hk.lt
  by_cases hfw : fw = 0
  rotate_left
  · have dw : (fw != 0) = true := by rw [bne_iff_ne]; exact hfw
    by_cases hf8 : f8 = 0
    · have h8 : at_ % 8 ≠ 0 := by
        intro h
        have := HWO.out
        rw [if_neg (by simp [hf8]), if_neg (by omega)] at this
        exact hfw this
      have d8 : (f8 != 0) = false := by rw [bne_eq_false_iff_eq]; exact hf8
      have d9 : ((at_ : Int) % 8 != 0) = true := by rw [bne_iff_ne]; omega
      clear hf8 hfw
      go_wp2_with fail
      go_ret
      exact ⟨rfl, (by have hs_ := hB.size; repeat (first | with_reducible exact hB | with_reducible (refine Below.setCell ?_ (by simp <;> omega) _) | with_reducible (refine Below.alloc ?_ (by first | exact hs_ | (simp <;> omega)) _) | with_reducible (refine Below.drew ?_)))⟩
    have d8 : (f8 != 0) = true := by rw [bne_iff_ne]; exact hf8
    clear hf8 hfw
    go_wp2_with fail
    go_ret
    exact ⟨rfl, (by have hs_ := hB.size; repeat (first | with_reducible exact hB | with_reducible (refine Below.setCell ?_ (by simp <;> omega) _) | with_reducible (refine Below.alloc ?_ (by first | exact hs_ | (simp <;> omega)) _) | with_reducible (refine Below.drew ?_)))⟩
  have hb8 : f8 = 0 ∧ at_ % 8 = 0 := by
    have h := HWO.out
    by_cases h1 : f8 ≠ 0
    · rw [if_pos h1] at h; omega
    · rw [if_neg h1] at h
      by_cases h2 : at_ % 8 ≠ 0
      · rw [if_pos h2] at h; omega
      · omega
  have hl8 : T8.length = 8 := HL8.out hb8.1
  have hxw : xw = unl T8 := by have := HWN.out; rw [if_pos hfw] at this; exact this
  have dw : (fw != 0) = false := by rw [bne_eq_false_iff_eq]; exact hfw
  have d8 : (f8 != 0) = false := by rw [bne_eq_false_iff_eq]; exact hb8.1
  have d9 : ((at_ : Int) % 8 != 0) = false := by rw [bne_eq_false_iff_eq]; omega
  have dl : ((T8.length : Int) != 8) = false := by rw [bne_eq_false_iff_eq]; omega
  have HX := Lib.hid hxw
  have HL := Lib.hid hl8
  have R8 := own_rd o8
  have hul := unl_lt T8
  rw [hl8] at hul
  clear hxw hl8 hb8 hfw o8
  go_wp2_with fail
  clear z36 z37 z38 z39 z40
  go_loopw [22, 23] (fun s i wr => ∃ j : Nat, j ≤ 8 ∧ i = .int .i64 ((j : Int) - 1) ∧ s = .int .u64 ((unl (T8.drop j) : Nat) : Int) ∧ w7 = wr) (fun _ i _ => (intOf i + 1).toNat)
  case atStart => exact ⟨8, by omega, rfl, by rw [List.drop_of_length_le (by rw [HL.out]; omega)]; rfl, rfl⟩
  case round =>
    obtain ⟨j, hj, rfl, rfl, rfl⟩ := hrel
    rcases j with _ | j
    · rw [List.drop_zero, ← HX.out]
      have dx : ¬ (0 : Int) ≤ ((0 : Nat) : Int) - 1 := by omega
      go_wp2_with fail
      go_ret
      exact ⟨rfl, hB⟩
    · obtain ⟨ad, cb, rfl, hb8, hc8, hcell⟩ := R8.byte (k := j) (by rw [HL.out]; omega)
      have hjl : j < T8.length := by rw [HL.out]; omega
      have hud := unl_drop hc8
      have hlt := unl_lt (T8.drop (j + 1))
      have hlt2 := unl_lt (T8.drop j)
      rw [List.length_drop, HL.out] at hlt hlt2
      have hp : 256 ^ (8 - j) ≤ 256 ^ 8 := Nat.pow_le_pow_right (by omega) (by omega)
      have HU := Lib.hid hud
      have hcc := cb.toNat_lt
      obtain ⟨z, hz⟩ : ∃ z, unl (T8.drop (j + 1)) = z := ⟨_, rfl⟩
      rw [hz] at HU ⊢
      have h256 : (256 : Nat) ^ 8 = 18446744073709551616 := by decide
      have hz1 : z * 256 + cb.toNat < 18446744073709551616 := Nat.lt_of_le_of_lt (Nat.le_of_eq HU.out.symm) (Nat.lt_of_lt_of_le hlt2 (by rw [← h256]; exact hp))
      clear h256
      have e1 : (((j + 1 : Nat) : Int) - 1) = (j : Int) := by omega
      rw [e1]
      have e2 : IntKind.u64.wrap ((z : Int) * 256) = (z : Int) * 256 := by rw [IntKind.wrap_u64]; omega
      have e3 : IntKind.u64.wrap ((z : Int) * 256 + (cb.toNat : Int)) = (z : Int) * 256 + (cb.toNat : Int) := by rw [IntKind.wrap_u64]; omega
      have e4 : IntKind.u64.wrap ((cb.toNat : Int)) = (cb.toNat : Int) := by rw [IntKind.wrap_u64]; omega
      clear hz hud hlt hlt2 hp e1
      go_wp2_with fail
      go_roundw
      case rel => exact ⟨j, by omega, rfl, by rw [HU.out]; go_num, trivial⟩
      case measure => simp [intOf] <;> omega

end Go.Proofs.Ytponceakelimeaa
