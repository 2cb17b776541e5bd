/- The walk of HeadsBegin. -/
import Derived.Test.YtljpggebpfpelaaHd19
namespace Go.Proofs.Ytljpggebpfpelaa
open Go.RowKit Wire
set_option linter.unusedVariables false

def reE (l : List UInt8) : Int := if (red l).isSome then 0 else 12
def rhE (l : List UInt8) : Int := if (rhd l).isSome then 0 else 12
def rcE (l : List UInt8) : Int := if (rch l).isSome then 0 else 12

set_option maxHeartbeats 1600000 in
theorem ReadEndedE (A : Option Addr) (n c : Nat) (l : List UInt8) (w : World) (hr : Rb w A n l) (hn : l.length ≤ 200000) :
    Calls Try.prog 12 #[.slice A n c] w fun e w' => ∃ (x : Nat) (f s : Int), e = .returned (.tuple #[endV x f s, .int .i64 (reE l)]) ∧ Below w.heap.size w w' := by
  refine (readEnded_any A n c l w hr hn).mono ?_
  rintro e w1 ⟨hq, b⟩
  rcases hq with ⟨h1, rfl⟩ | h1
  · exact ⟨_, _, _, by rw [show reE l = 12 from by simp [reE, h1]], b⟩
  · obtain ⟨x, f, s, h1, rfl⟩ := h1
    exact ⟨_, _, _, by rw [show reE l = 0 from by simp [reE, h1]], b⟩

theorem reE_begin {l m : List UInt8} {k : Nat} (hk : k < l.length) (hm : m ≠ []) (hl : (l ++ m).length ≤ 200000) : reE l = 12 ∨ (reE l = 0 ∧ reE (l.take k) = 12 ∧ reE (l ++ m) = 12) := by
  cases h : red l with
  | none => exact .inl (by simp [reE, h])
  | some p =>
    refine .inr ⟨by simp [reE, h], ?_, by simp [reE, red_more h hm hl]⟩
    cases h2 : red (l.take k) with
    | none => simp [reE, h2]
    | some q =>
      exfalso
      have h3 := red_more h2 (m := l.drop k) (fun e => by have := congrArg List.length e; simp only [List.length_drop, List.length_nil] at this; omega) (by rw [List.take_append_drop]; simp only [List.length_append] at hl; omega)
      rw [List.take_append_drop, h] at h3
      cases h3

set_option maxHeartbeats 1600000 in
theorem ReadHeadsE (A : Option Addr) (n c : Nat) (l : List UInt8) (w : World) (hr : Rb w A n l) (hn : l.length ≤ 200000) :
    Calls Try.prog 14 #[.slice A n c] w fun e w' => ∃ (A' : Option Addr) (m c' : Nat), e = .returned (.tuple #[Value.slice A' m c', .int .i64 (rhE l)]) ∧ Below w.heap.size w w' := by
  refine (readHeads_any A n c l w hr hn).mono ?_
  rintro e w1 ⟨hq, b⟩
  rcases hq with ⟨h1, rfl⟩ | h1
  · exact ⟨_, _, _, by rw [show rhE l = 12 from by simp [rhE, h1]], b⟩
  · obtain ⟨L, A2, c2, h1, rfl, _⟩ := h1
    exact ⟨_, _, _, by rw [show rhE l = 0 from by simp [rhE, h1]], b⟩

theorem rhE_begin {l m : List UInt8} {k : Nat} (hk : k < l.length) (hm : m ≠ []) (hl : (l ++ m).length ≤ 200000) : rhE l = 12 ∨ (rhE l = 0 ∧ rhE (l.take k) = 12 ∧ rhE (l ++ m) = 12) := by
  cases h : rhd l with
  | none => exact .inl (by simp [rhE, h])
  | some p =>
    refine .inr ⟨by simp [rhE, h], ?_, by simp [rhE, rhd_more h hm hl]⟩
    cases h2 : rhd (l.take k) with
    | none => simp [rhE, h2]
    | some q =>
      exfalso
      have h3 := rhd_more h2 (m := l.drop k) (fun e => by have := congrArg List.length e; simp only [List.length_drop, List.length_nil] at this; omega) (by rw [List.take_append_drop]; simp only [List.length_append] at hl; omega)
      rw [List.take_append_drop, h] at h3
      cases h3

set_option maxHeartbeats 1600000 in
theorem ReadChainsE (A : Option Addr) (n c : Nat) (l : List UInt8) (w : World) (hr : Rb w A n l) (hn : l.length ≤ 200000) :
    Calls Try.prog 17 #[.slice A n c] w fun e w' => ∃ (A' : Option Addr) (m c' : Nat), e = .returned (.tuple #[Value.slice A' m c', .int .i64 (rcE l)]) ∧ Below w.heap.size w w' := by
  refine (readChains_any A n c l w hr hn).mono ?_
  rintro e w1 ⟨hq, b⟩
  rcases hq with ⟨h1, rfl⟩ | h1
  · exact ⟨_, _, _, by rw [show rcE l = 12 from by simp [rcE, h1]], b⟩
  · obtain ⟨L, A2, c2, h1, rfl, _⟩ := h1
    exact ⟨_, _, _, by rw [show rcE l = 0 from by simp [rcE, h1]], b⟩

theorem rcE_begin {l m : List UInt8} {k : Nat} (hk : k < l.length) (hm : m ≠ []) (hl : (l ++ m).length ≤ 200000) : rcE l = 12 ∨ (rcE l = 0 ∧ rcE (l.take k) = 12 ∧ rcE (l ++ m) = 12) := by
  cases h : rch l with
  | none => exact .inl (by simp [rcE, h])
  | some p =>
    refine .inr ⟨by simp [rcE, h], ?_, by simp [rcE, rch_more h hm hl]⟩
    cases h2 : rch (l.take k) with
    | none => simp [rcE, h2]
    | some q =>
      exfalso
      have h3 := rch_more h2 (m := l.drop k) (fun e => by have := congrArg List.length e; simp only [List.length_drop, List.length_nil] at this; omega) (by rw [List.take_append_drop]; simp only [List.length_append] at hl; omega)
      rw [List.take_append_drop, h] at h3
      cases h3

set_option maxRecDepth 100000 in
set_option maxHeartbeats 8000000 in
theorem headsBegin_walk (w : World) (A : Option Addr) (n c : Nat) (l : List UInt8) (hr : Rb w A n l) (hc : n ≤ c ∧ c ≤ 9223372036854775807) (i : Int) (hi : -9223372036854775808 ≤ i ∧ i ≤ 9223372036854775807) (A2 : Option Addr) (n2 c2 : Nat) (l2 : List UInt8) (hr2 : Rb w A2 n2 l2) (hc2 : n2 ≤ c2 ∧ c2 ≤ 9223372036854775807) :
    Calls Try.prog 4 #[.slice A n c, .int .i64 i, .slice A2 n2 c2] w fun e w' => e = .returned (.bool true) ∧ Below w.heap.size w w' := by
  have HR := Lib.hid hr
  have HR2 := Lib.hid hr2
  have HL := Lib.hid hr.len8
  have HL2 := Lib.hid hr2.len8
  clear hr hr2
  have hB := Below.refl w.heap.size w
  go_enter Try.func4, Try.ntmps4
  go_wp2_with fail
  with_reducible refine (alive27_any w).mono ?_
  rintro e w1 ⟨rfl, bB⟩
  replace hB := Below.via (w := w) (by have hs_ := hB.size; repeat (first | with_reducible exact hB | with_reducible (refine Below.setCell ?_ (by simp <;> omega) _) | with_reducible (refine Below.alloc ?_ (by first | exact hs_ | (simp <;> omega)) _) | with_reducible (refine Below.drew ?_))) bB
  clear bB
  by_cases g1 : 3000 < n
  · go_wp2_with fail
    go_ret
    exact ⟨rfl, hB⟩
  by_cases g2 : i < 0
  · go_wp2_with fail
    go_ret
    exact ⟨rfl, hB⟩
  by_cases g3 : (n : Int) ≤ i
  · go_wp2_with fail
    go_ret
    exact ⟨rfl, hB⟩
  by_cases g4 : n2 < 1
  · go_wp2_with fail
    go_ret
    exact ⟨rfl, hB⟩
  by_cases g5 : 100 < n2
  · go_wp2_with fail
    go_ret
    exact ⟨rfl, hB⟩
  obtain ⟨k, rfl⟩ : ∃ k : Nat, i = (k : Int) := ⟨i.toNat, by omega⟩
  have gk : k < n := by omega
  have gkc : k ≤ c := by omega
  have hl := HL.out
  have hl2 := HL2.out
  have hnm : l2 ≠ [] := fun e => by rw [e] at hl2; simp at hl2; omega
  have hall : (l ++ l2).length ≤ 200000 := by rw [List.length_append]; omega
  obtain ⟨NN, hNN⟩ : ∃ NN, n + n2 = NN := ⟨_, rfl⟩
  have RP := Reads.first HR.out (Nat.le_of_lt gk)
  rw [Nat.mul_one, ← List.map_take] at RP
  have HRP := Lib.hid RP
  have hltk : (l.take k).length ≤ 200000 := by rw [List.length_take]; omega
  have CreE := Lib.hid (reE_begin (l := l) (m := l2) (k := k) (by omega) hnm hall)
  have FreE := Lib.hid (fun W (h : Rb W A n l) => ReadEndedE A n c l W h (by omega))
  have GreE := Lib.hid (fun W (h : Rb W A k (l.take k)) => ReadEndedE A k c _ W h hltk)
  have KreE := Lib.hid (fun (A9 : Option Addr) (c9 : Nat) W (h : Rb W A9 NN (l ++ l2)) => ReadEndedE A9 NN c9 _ W h hall)
  have CrhE := Lib.hid (rhE_begin (l := l) (m := l2) (k := k) (by omega) hnm hall)
  have FrhE := Lib.hid (fun W (h : Rb W A n l) => ReadHeadsE A n c l W h (by omega))
  have GrhE := Lib.hid (fun W (h : Rb W A k (l.take k)) => ReadHeadsE A k c _ W h hltk)
  have KrhE := Lib.hid (fun (A9 : Option Addr) (c9 : Nat) W (h : Rb W A9 NN (l ++ l2)) => ReadHeadsE A9 NN c9 _ W h hall)
  have CrcE := Lib.hid (rcE_begin (l := l) (m := l2) (k := k) (by omega) hnm hall)
  have FrcE := Lib.hid (fun W (h : Rb W A n l) => ReadChainsE A n c l W h (by omega))
  have GrcE := Lib.hid (fun W (h : Rb W A k (l.take k)) => ReadChainsE A k c _ W h hltk)
  have KrcE := Lib.hid (fun (A9 : Option Addr) (c9 : Nat) W (h : Rb W A9 NN (l ++ l2)) => ReadChainsE A9 NN c9 _ W h hall)
  obtain ⟨LA, hLA⟩ : ∃ LA, l ++ l2 = LA := ⟨_, rfl⟩
  rw [hLA] at CreE KreE CrhE KrhE CrcE KrcE
  obtain ⟨LT, hLT⟩ : ∃ LT, l.take k = LT := ⟨_, rfl⟩
  rw [hLT] at CreE GreE CrhE GrhE CrcE GrcE HRP
  have HLA := Lib.hid hLA
  clear hLA hLT hnm hall hltk RP hl hl2
  have oe := own_empty w1 hB.size 5 1
  have R1 := HR.out.mv (hB.alloc hB.size (.cells #[] 5))
  have R2 := HR2.out.mv hB
  have hBe := hB.alloc hB.size (.cells #[] 5)
  go_wp2_with (first | (at_builtin; (refine wpList_app8g (l := []) rfl (.tmp 44) (.tmp 45) _ (by rfl) sl8 w.heap.size (by rfl) oe (by rfl) R1 n (by omega) (by omega) hBe.size ?_; intro A8 c8 w8 o8 hg8 b8_; have hB8 := hBe.trans b8_)) | (at_builtin; refine wpList_app8g rfl (.tmp 46) (.tmp 47) _ (by rfl) sl8 w.heap.size (by rfl) o8 (by rfl) (HR2.out.mv hB8) NN (by omega) (by omega) hB8.size ?_; intro A9 c9 w9 o9 hg9 b9_; have hB9 := hB8.trans b9_))
  rw [List.nil_append, HLA.out] at o9
  clear oe R1 R2 hBe hg9 b9_ hB8 hg8 b8_ o8 hB
  have hB := hB9
  clear hB9
  rcases CreE.out with q1 | ⟨q1, q2, q3⟩
  · have F := FreE.out
    have G := GreE.out
    have K := KreE.out
    rw [q1] at F
    obtain ⟨ec, hec⟩ : ∃ ec, reE LT = ec := ⟨_, rfl⟩
    obtain ⟨ed, hed⟩ : ∃ ed, reE LA = ed := ⟨_, rfl⟩
    rw [hec] at G
    rw [hed] at K
    clear hec hed q1
    replace F := Lib.hid F
    replace G := Lib.hid G
    replace K := Lib.hid K
    go_wp2_with fail
    refine (F.out _ (HR.out.mv (by have hs_ := hB.size; repeat (first | with_reducible exact hB | with_reducible (refine Below.setCell ?_ (by simp <;> omega) _) | with_reducible (refine Below.alloc ?_ (by first | exact hs_ | (simp <;> omega)) _) | with_reducible (refine Below.drew ?_))))).mono ?_
    rintro e u01 ⟨x_, f_, s_, rfl, bB⟩
    replace o9 := own_call (by repeat (first | with_reducible exact o9 | (with_reducible apply own_set_; case hne => first | skip) | with_reducible (apply own_alloc_) | with_reducible (apply own_drew_))) bB
    replace hB := Below.via (w := w) (by have hs_ := hB.size; repeat (first | with_reducible exact hB | with_reducible (refine Below.setCell ?_ (by simp <;> omega) _) | with_reducible (refine Below.alloc ?_ (by first | exact hs_ | (simp <;> omega)) _) | with_reducible (refine Below.drew ?_))) bB
    clear bB
    go_wp2_with fail
    refine (G.out _ (HRP.out.mv (by have hs_ := hB.size; repeat (first | with_reducible exact hB | with_reducible (refine Below.setCell ?_ (by simp <;> omega) _) | with_reducible (refine Below.alloc ?_ (by first | exact hs_ | (simp <;> omega)) _) | with_reducible (refine Below.drew ?_))))).mono ?_
    rintro e u02 ⟨x_, f_, s_, rfl, bB⟩
    replace o9 := own_call (by repeat (first | with_reducible exact o9 | (with_reducible apply own_set_; case hne => first | skip) | with_reducible (apply own_alloc_) | with_reducible (apply own_drew_))) bB
    replace hB := Below.via (w := w) (by have hs_ := hB.size; repeat (first | with_reducible exact hB | with_reducible (refine Below.setCell ?_ (by simp <;> omega) _) | with_reducible (refine Below.alloc ?_ (by first | exact hs_ | (simp <;> omega)) _) | with_reducible (refine Below.drew ?_))) bB
    clear bB
    go_wp2_with fail
    refine (K.out A9 c9 _ (own_rd (by repeat (first | with_reducible exact o9 | (with_reducible apply own_set_; case hne => first | skip) | with_reducible (apply own_alloc_) | with_reducible (apply own_drew_))))).mono ?_
    rintro e u03 ⟨x_, f_, s_, rfl, bB⟩
    replace o9 := own_call (by repeat (first | with_reducible exact o9 | (with_reducible apply own_set_; case hne => first | skip) | with_reducible (apply own_alloc_) | with_reducible (apply own_drew_))) bB
    replace hB := Below.via (w := w) (by have hs_ := hB.size; repeat (first | with_reducible exact hB | with_reducible (refine Below.setCell ?_ (by simp <;> omega) _) | with_reducible (refine Below.alloc ?_ (by first | exact hs_ | (simp <;> omega)) _) | with_reducible (refine Below.drew ?_))) bB
    clear bB
    clear F G K
    rcases CrhE.out with q1 | ⟨q1, q2, q3⟩
    · have F := FrhE.out
      have G := GrhE.out
      have K := KrhE.out
      rw [q1] at F
      obtain ⟨ec, hec⟩ : ∃ ec, rhE LT = ec := ⟨_, rfl⟩
      obtain ⟨ed, hed⟩ : ∃ ed, rhE LA = ed := ⟨_, rfl⟩
      rw [hec] at G
      rw [hed] at K
      clear hec hed q1
      replace F := Lib.hid F
      replace G := Lib.hid G
      replace K := Lib.hid K
      go_wp2_with fail
      refine (F.out _ (HR.out.mv (by have hs_ := hB.size; repeat (first | with_reducible exact hB | with_reducible (refine Below.setCell ?_ (by simp <;> omega) _) | with_reducible (refine Below.alloc ?_ (by first | exact hs_ | (simp <;> omega)) _) | with_reducible (refine Below.drew ?_))))).mono ?_
      rintro e u11 ⟨x_, f_, s_, rfl, bB⟩
      replace o9 := own_call (by repeat (first | with_reducible exact o9 | (with_reducible apply own_set_; case hne => first | skip) | with_reducible (apply own_alloc_) | with_reducible (apply own_drew_))) bB
      replace hB := Below.via (w := w) (by have hs_ := hB.size; repeat (first | with_reducible exact hB | with_reducible (refine Below.setCell ?_ (by simp <;> omega) _) | with_reducible (refine Below.alloc ?_ (by first | exact hs_ | (simp <;> omega)) _) | with_reducible (refine Below.drew ?_))) bB
      clear bB
      go_wp2_with fail
      refine (G.out _ (HRP.out.mv (by have hs_ := hB.size; repeat (first | with_reducible exact hB | with_reducible (refine Below.setCell ?_ (by simp <;> omega) _) | with_reducible (refine Below.alloc ?_ (by first | exact hs_ | (simp <;> omega)) _) | with_reducible (refine Below.drew ?_))))).mono ?_
      rintro e u12 ⟨x_, f_, s_, rfl, bB⟩
      replace o9 := own_call (by repeat (first | with_reducible exact o9 | (with_reducible apply own_set_; case hne => first | skip) | with_reducible (apply own_alloc_) | with_reducible (apply own_drew_))) bB
      replace hB := Below.via (w := w) (by have hs_ := hB.size; repeat (first | with_reducible exact hB | with_reducible (refine Below.setCell ?_ (by simp <;> omega) _) | with_reducible (refine Below.alloc ?_ (by first | exact hs_ | (simp <;> omega)) _) | with_reducible (refine Below.drew ?_))) bB
      clear bB
      go_wp2_with fail
      refine (K.out A9 c9 _ (own_rd (by repeat (first | with_reducible exact o9 | (with_reducible apply own_set_; case hne => first | skip) | with_reducible (apply own_alloc_) | with_reducible (apply own_drew_))))).mono ?_
      rintro e u13 ⟨x_, f_, s_, rfl, bB⟩
      replace o9 := own_call (by repeat (first | with_reducible exact o9 | (with_reducible apply own_set_; case hne => first | skip) | with_reducible (apply own_alloc_) | with_reducible (apply own_drew_))) bB
      replace hB := Below.via (w := w) (by have hs_ := hB.size; repeat (first | with_reducible exact hB | with_reducible (refine Below.setCell ?_ (by simp <;> omega) _) | with_reducible (refine Below.alloc ?_ (by first | exact hs_ | (simp <;> omega)) _) | with_reducible (refine Below.drew ?_))) bB
      clear bB
      clear F G K
      rcases CrcE.out with q1 | ⟨q1, q2, q3⟩
      · have F := FrcE.out
        have G := GrcE.out
        have K := KrcE.out
        rw [q1] at F
        obtain ⟨ec, hec⟩ : ∃ ec, rcE LT = ec := ⟨_, rfl⟩
        obtain ⟨ed, hed⟩ : ∃ ed, rcE LA = ed := ⟨_, rfl⟩
        rw [hec] at G
        rw [hed] at K
        clear hec hed q1
        replace F := Lib.hid F
        replace G := Lib.hid G
        replace K := Lib.hid K
        go_wp2_with fail
        refine (F.out _ (HR.out.mv (by have hs_ := hB.size; repeat (first | with_reducible exact hB | with_reducible (refine Below.setCell ?_ (by simp <;> omega) _) | with_reducible (refine Below.alloc ?_ (by first | exact hs_ | (simp <;> omega)) _) | with_reducible (refine Below.drew ?_))))).mono ?_
        rintro e u21 ⟨x_, f_, s_, rfl, bB⟩
        replace o9 := own_call (by repeat (first | with_reducible exact o9 | (with_reducible apply own_set_; case hne => first | skip) | with_reducible (apply own_alloc_) | with_reducible (apply own_drew_))) bB
        replace hB := Below.via (w := w) (by have hs_ := hB.size; repeat (first | with_reducible exact hB | with_reducible (refine Below.setCell ?_ (by simp <;> omega) _) | with_reducible (refine Below.alloc ?_ (by first | exact hs_ | (simp <;> omega)) _) | with_reducible (refine Below.drew ?_))) bB
        clear bB
        go_wp2_with fail
        refine (G.out _ (HRP.out.mv (by have hs_ := hB.size; repeat (first | with_reducible exact hB | with_reducible (refine Below.setCell ?_ (by simp <;> omega) _) | with_reducible (refine Below.alloc ?_ (by first | exact hs_ | (simp <;> omega)) _) | with_reducible (refine Below.drew ?_))))).mono ?_
        rintro e u22 ⟨x_, f_, s_, rfl, bB⟩
        replace o9 := own_call (by repeat (first | with_reducible exact o9 | (with_reducible apply own_set_; case hne => first | skip) | with_reducible (apply own_alloc_) | with_reducible (apply own_drew_))) bB
        replace hB := Below.via (w := w) (by have hs_ := hB.size; repeat (first | with_reducible exact hB | with_reducible (refine Below.setCell ?_ (by simp <;> omega) _) | with_reducible (refine Below.alloc ?_ (by first | exact hs_ | (simp <;> omega)) _) | with_reducible (refine Below.drew ?_))) bB
        clear bB
        go_wp2_with fail
        refine (K.out A9 c9 _ (own_rd (by repeat (first | with_reducible exact o9 | (with_reducible apply own_set_; case hne => first | skip) | with_reducible (apply own_alloc_) | with_reducible (apply own_drew_))))).mono ?_
        rintro e u23 ⟨x_, f_, s_, rfl, bB⟩
        replace o9 := own_call (by repeat (first | with_reducible exact o9 | (with_reducible apply own_set_; case hne => first | skip) | with_reducible (apply own_alloc_) | with_reducible (apply own_drew_))) bB
        replace hB := Below.via (w := w) (by have hs_ := hB.size; repeat (first | with_reducible exact hB | with_reducible (refine Below.setCell ?_ (by simp <;> omega) _) | with_reducible (refine Below.alloc ?_ (by first | exact hs_ | (simp <;> omega)) _) | with_reducible (refine Below.drew ?_))) bB
        clear bB
        clear F G K
        go_wp2_with fail
        go_ret
        exact ⟨rfl, (by have hs_ := hB.size; repeat (first | with_reducible exact hB | with_reducible (refine Below.setCell ?_ (by simp <;> omega) _) | with_reducible (refine Below.alloc ?_ (by first | exact hs_ | (simp <;> omega)) _) | with_reducible (refine Below.drew ?_)))⟩
      · have F := FrcE.out
        have G := GrcE.out
        have K := KrcE.out
        rw [q1] at F
        rw [q2] at G
        rw [q3] at K
        clear q1 q2 q3
        replace F := Lib.hid F
        replace G := Lib.hid G
        replace K := Lib.hid K
        go_wp2_with fail
        refine (F.out _ (HR.out.mv (by have hs_ := hB.size; repeat (first | with_reducible exact hB | with_reducible (refine Below.setCell ?_ (by simp <;> omega) _) | with_reducible (refine Below.alloc ?_ (by first | exact hs_ | (simp <;> omega)) _) | with_reducible (refine Below.drew ?_))))).mono ?_
        rintro e u21 ⟨x_, f_, s_, rfl, bB⟩
        replace o9 := own_call (by repeat (first | with_reducible exact o9 | (with_reducible apply own_set_; case hne => first | skip) | with_reducible (apply own_alloc_) | with_reducible (apply own_drew_))) bB
        replace hB := Below.via (w := w) (by have hs_ := hB.size; repeat (first | with_reducible exact hB | with_reducible (refine Below.setCell ?_ (by simp <;> omega) _) | with_reducible (refine Below.alloc ?_ (by first | exact hs_ | (simp <;> omega)) _) | with_reducible (refine Below.drew ?_))) bB
        clear bB
        go_wp2_with fail
        refine (G.out _ (HRP.out.mv (by have hs_ := hB.size; repeat (first | with_reducible exact hB | with_reducible (refine Below.setCell ?_ (by simp <;> omega) _) | with_reducible (refine Below.alloc ?_ (by first | exact hs_ | (simp <;> omega)) _) | with_reducible (refine Below.drew ?_))))).mono ?_
        rintro e u22 ⟨x_, f_, s_, rfl, bB⟩
        replace o9 := own_call (by repeat (first | with_reducible exact o9 | (with_reducible apply own_set_; case hne => first | skip) | with_reducible (apply own_alloc_) | with_reducible (apply own_drew_))) bB
        replace hB := Below.via (w := w) (by have hs_ := hB.size; repeat (first | with_reducible exact hB | with_reducible (refine Below.setCell ?_ (by simp <;> omega) _) | with_reducible (refine Below.alloc ?_ (by first | exact hs_ | (simp <;> omega)) _) | with_reducible (refine Below.drew ?_))) bB
        clear bB
        go_wp2_with fail
        refine (K.out A9 c9 _ (own_rd (by repeat (first | with_reducible exact o9 | (with_reducible apply own_set_; case hne => first | skip) | with_reducible (apply own_alloc_) | with_reducible (apply own_drew_))))).mono ?_
        rintro e u23 ⟨x_, f_, s_, rfl, bB⟩
        replace o9 := own_call (by repeat (first | with_reducible exact o9 | (with_reducible apply own_set_; case hne => first | skip) | with_reducible (apply own_alloc_) | with_reducible (apply own_drew_))) bB
        replace hB := Below.via (w := w) (by have hs_ := hB.size; repeat (first | with_reducible exact hB | with_reducible (refine Below.setCell ?_ (by simp <;> omega) _) | with_reducible (refine Below.alloc ?_ (by first | exact hs_ | (simp <;> omega)) _) | with_reducible (refine Below.drew ?_))) bB
        clear bB
        clear F G K
        go_wp2_with fail
        go_ret
        exact ⟨rfl, (by have hs_ := hB.size; repeat (first | with_reducible exact hB | with_reducible (refine Below.setCell ?_ (by simp <;> omega) _) | with_reducible (refine Below.alloc ?_ (by first | exact hs_ | (simp <;> omega)) _) | with_reducible (refine Below.drew ?_)))⟩
    · have F := FrhE.out
      have G := GrhE.out
      have K := KrhE.out
      rw [q1] at F
      rw [q2] at G
      rw [q3] at K
      clear q1 q2 q3
      replace F := Lib.hid F
      replace G := Lib.hid G
      replace K := Lib.hid K
      go_wp2_with fail
      refine (F.out _ (HR.out.mv (by have hs_ := hB.size; repeat (first | with_reducible exact hB | with_reducible (refine Below.setCell ?_ (by simp <;> omega) _) | with_reducible (refine Below.alloc ?_ (by first | exact hs_ | (simp <;> omega)) _) | with_reducible (refine Below.drew ?_))))).mono ?_
      rintro e u11 ⟨x_, f_, s_, rfl, bB⟩
      replace o9 := own_call (by repeat (first | with_reducible exact o9 | (with_reducible apply own_set_; case hne => first | skip) | with_reducible (apply own_alloc_) | with_reducible (apply own_drew_))) bB
      replace hB := Below.via (w := w) (by have hs_ := hB.size; repeat (first | with_reducible exact hB | with_reducible (refine Below.setCell ?_ (by simp <;> omega) _) | with_reducible (refine Below.alloc ?_ (by first | exact hs_ | (simp <;> omega)) _) | with_reducible (refine Below.drew ?_))) bB
      clear bB
      go_wp2_with fail
      refine (G.out _ (HRP.out.mv (by have hs_ := hB.size; repeat (first | with_reducible exact hB | with_reducible (refine Below.setCell ?_ (by simp <;> omega) _) | with_reducible (refine Below.alloc ?_ (by first | exact hs_ | (simp <;> omega)) _) | with_reducible (refine Below.drew ?_))))).mono ?_
      rintro e u12 ⟨x_, f_, s_, rfl, bB⟩
      replace o9 := own_call (by repeat (first | with_reducible exact o9 | (with_reducible apply own_set_; case hne => first | skip) | with_reducible (apply own_alloc_) | with_reducible (apply own_drew_))) bB
      replace hB := Below.via (w := w) (by have hs_ := hB.size; repeat (first | with_reducible exact hB | with_reducible (refine Below.setCell ?_ (by simp <;> omega) _) | with_reducible (refine Below.alloc ?_ (by first | exact hs_ | (simp <;> omega)) _) | with_reducible (refine Below.drew ?_))) bB
      clear bB
      go_wp2_with fail
      refine (K.out A9 c9 _ (own_rd (by repeat (first | with_reducible exact o9 | (with_reducible apply own_set_; case hne => first | skip) | with_reducible (apply own_alloc_) | with_reducible (apply own_drew_))))).mono ?_
      rintro e u13 ⟨x_, f_, s_, rfl, bB⟩
      replace o9 := own_call (by repeat (first | with_reducible exact o9 | (with_reducible apply own_set_; case hne => first | skip) | with_reducible (apply own_alloc_) | with_reducible (apply own_drew_))) bB
      replace hB := Below.via (w := w) (by have hs_ := hB.size; repeat (first | with_reducible exact hB | with_reducible (refine Below.setCell ?_ (by simp <;> omega) _) | with_reducible (refine Below.alloc ?_ (by first | exact hs_ | (simp <;> omega)) _) | with_reducible (refine Below.drew ?_))) bB
      clear bB
      clear F G K
      rcases CrcE.out with q1 | ⟨q1, q2, q3⟩
      · have F := FrcE.out
        have G := GrcE.out
        have K := KrcE.out
        rw [q1] at F
        obtain ⟨ec, hec⟩ : ∃ ec, rcE LT = ec := ⟨_, rfl⟩
        obtain ⟨ed, hed⟩ : ∃ ed, rcE LA = ed := ⟨_, rfl⟩
        rw [hec] at G
        rw [hed] at K
        clear hec hed q1
        replace F := Lib.hid F
        replace G := Lib.hid G
        replace K := Lib.hid K
        go_wp2_with fail
        refine (F.out _ (HR.out.mv (by have hs_ := hB.size; repeat (first | with_reducible exact hB | with_reducible (refine Below.setCell ?_ (by simp <;> omega) _) | with_reducible (refine Below.alloc ?_ (by first | exact hs_ | (simp <;> omega)) _) | with_reducible (refine Below.drew ?_))))).mono ?_
        rintro e u21 ⟨x_, f_, s_, rfl, bB⟩
        replace o9 := own_call (by repeat (first | with_reducible exact o9 | (with_reducible apply own_set_; case hne => first | skip) | with_reducible (apply own_alloc_) | with_reducible (apply own_drew_))) bB
        replace hB := Below.via (w := w) (by have hs_ := hB.size; repeat (first | with_reducible exact hB | with_reducible (refine Below.setCell ?_ (by simp <;> omega) _) | with_reducible (refine Below.alloc ?_ (by first | exact hs_ | (simp <;> omega)) _) | with_reducible (refine Below.drew ?_))) bB
        clear bB
        go_wp2_with fail
        refine (G.out _ (HRP.out.mv (by have hs_ := hB.size; repeat (first | with_reducible exact hB | with_reducible (refine Below.setCell ?_ (by simp <;> omega) _) | with_reducible (refine Below.alloc ?_ (by first | exact hs_ | (simp <;> omega)) _) | with_reducible (refine Below.drew ?_))))).mono ?_
        rintro e u22 ⟨x_, f_, s_, rfl, bB⟩
        replace o9 := own_call (by repeat (first | with_reducible exact o9 | (with_reducible apply own_set_; case hne => first | skip) | with_reducible (apply own_alloc_) | with_reducible (apply own_drew_))) bB
        replace hB := Below.via (w := w) (by have hs_ := hB.size; repeat (first | with_reducible exact hB | with_reducible (refine Below.setCell ?_ (by simp <;> omega) _) | with_reducible (refine Below.alloc ?_ (by first | exact hs_ | (simp <;> omega)) _) | with_reducible (refine Below.drew ?_))) bB
        clear bB
        go_wp2_with fail
        refine (K.out A9 c9 _ (own_rd (by repeat (first | with_reducible exact o9 | (with_reducible apply own_set_; case hne => first | skip) | with_reducible (apply own_alloc_) | with_reducible (apply own_drew_))))).mono ?_
        rintro e u23 ⟨x_, f_, s_, rfl, bB⟩
        replace o9 := own_call (by repeat (first | with_reducible exact o9 | (with_reducible apply own_set_; case hne => first | skip) | with_reducible (apply own_alloc_) | with_reducible (apply own_drew_))) bB
        replace hB := Below.via (w := w) (by have hs_ := hB.size; repeat (first | with_reducible exact hB | with_reducible (refine Below.setCell ?_ (by simp <;> omega) _) | with_reducible (refine Below.alloc ?_ (by first | exact hs_ | (simp <;> omega)) _) | with_reducible (refine Below.drew ?_))) bB
        clear bB
        clear F G K
        go_wp2_with fail
        go_ret
        exact ⟨rfl, (by have hs_ := hB.size; repeat (first | with_reducible exact hB | with_reducible (refine Below.setCell ?_ (by simp <;> omega) _) | with_reducible (refine Below.alloc ?_ (by first | exact hs_ | (simp <;> omega)) _) | with_reducible (refine Below.drew ?_)))⟩
      · have F := FrcE.out
        have G := GrcE.out
        have K := KrcE.out
        rw [q1] at F
        rw [q2] at G
        rw [q3] at K
        clear q1 q2 q3
        replace F := Lib.hid F
        replace G := Lib.hid G
        replace K := Lib.hid K
        go_wp2_with fail
        refine (F.out _ (HR.out.mv (by have hs_ := hB.size; repeat (first | with_reducible exact hB | with_reducible (refine Below.setCell ?_ (by simp <;> omega) _) | with_reducible (refine Below.alloc ?_ (by first | exact hs_ | (simp <;> omega)) _) | with_reducible (refine Below.drew ?_))))).mono ?_
        rintro e u21 ⟨x_, f_, s_, rfl, bB⟩
        replace o9 := own_call (by repeat (first | with_reducible exact o9 | (with_reducible apply own_set_; case hne => first | skip) | with_reducible (apply own_alloc_) | with_reducible (apply own_drew_))) bB
        replace hB := Below.via (w := w) (by have hs_ := hB.size; repeat (first | with_reducible exact hB | with_reducible (refine Below.setCell ?_ (by simp <;> omega) _) | with_reducible (refine Below.alloc ?_ (by first | exact hs_ | (simp <;> omega)) _) | with_reducible (refine Below.drew ?_))) bB
        clear bB
        go_wp2_with fail
        refine (G.out _ (HRP.out.mv (by have hs_ := hB.size; repeat (first | with_reducible exact hB | with_reducible (refine Below.setCell ?_ (by simp <;> omega) _) | with_reducible (refine Below.alloc ?_ (by first | exact hs_ | (simp <;> omega)) _) | with_reducible (refine Below.drew ?_))))).mono ?_
        rintro e u22 ⟨x_, f_, s_, rfl, bB⟩
        replace o9 := own_call (by repeat (first | with_reducible exact o9 | (with_reducible apply own_set_; case hne => first | skip) | with_reducible (apply own_alloc_) | with_reducible (apply own_drew_))) bB
        replace hB := Below.via (w := w) (by have hs_ := hB.size; repeat (first | with_reducible exact hB | with_reducible (refine Below.setCell ?_ (by simp <;> omega) _) | with_reducible (refine Below.alloc ?_ (by first | exact hs_ | (simp <;> omega)) _) | with_reducible (refine Below.drew ?_))) bB
        clear bB
        go_wp2_with fail
        refine (K.out A9 c9 _ (own_rd (by repeat (first | with_reducible exact o9 | (with_reducible apply own_set_; case hne => first | skip) | with_reducible (apply own_alloc_) | with_reducible (apply own_drew_))))).mono ?_
        rintro e u23 ⟨x_, f_, s_, rfl, bB⟩
        replace o9 := own_call (by repeat (first | with_reducible exact o9 | (with_reducible apply own_set_; case hne => first | skip) | with_reducible (apply own_alloc_) | with_reducible (apply own_drew_))) bB
        replace hB := Below.via (w := w) (by have hs_ := hB.size; repeat (first | with_reducible exact hB | with_reducible (refine Below.setCell ?_ (by simp <;> omega) _) | with_reducible (refine Below.alloc ?_ (by first | exact hs_ | (simp <;> omega)) _) | with_reducible (refine Below.drew ?_))) bB
        clear bB
        clear F G K
        go_wp2_with fail
        go_ret
        exact ⟨rfl, (by have hs_ := hB.size; repeat (first | with_reducible exact hB | with_reducible (refine Below.setCell ?_ (by simp <;> omega) _) | with_reducible (refine Below.alloc ?_ (by first | exact hs_ | (simp <;> omega)) _) | with_reducible (refine Below.drew ?_)))⟩
  · have F := FreE.out
    have G := GreE.out
    have K := KreE.out
    rw [q1] at F
    rw [q2] at G
    rw [q3] at K
    clear q1 q2 q3
    replace F := Lib.hid F
    replace G := Lib.hid G
    replace K := Lib.hid K
    go_wp2_with fail
    refine (F.out _ (HR.out.mv (by have hs_ := hB.size; repeat (first | with_reducible exact hB | with_reducible (refine Below.setCell ?_ (by simp <;> omega) _) | with_reducible (refine Below.alloc ?_ (by first | exact hs_ | (simp <;> omega)) _) | with_reducible (refine Below.drew ?_))))).mono ?_
    rintro e u01 ⟨x_, f_, s_, rfl, bB⟩
    replace o9 := own_call (by repeat (first | with_reducible exact o9 | (with_reducible apply own_set_; case hne => first | skip) | with_reducible (apply own_alloc_) | with_reducible (apply own_drew_))) bB
    replace hB := Below.via (w := w) (by have hs_ := hB.size; repeat (first | with_reducible exact hB | with_reducible (refine Below.setCell ?_ (by simp <;> omega) _) | with_reducible (refine Below.alloc ?_ (by first | exact hs_ | (simp <;> omega)) _) | with_reducible (refine Below.drew ?_))) bB
    clear bB
    go_wp2_with fail
    refine (G.out _ (HRP.out.mv (by have hs_ := hB.size; repeat (first | with_reducible exact hB | with_reducible (refine Below.setCell ?_ (by simp <;> omega) _) | with_reducible (refine Below.alloc ?_ (by first | exact hs_ | (simp <;> omega)) _) | with_reducible (refine Below.drew ?_))))).mono ?_
    rintro e u02 ⟨x_, f_, s_, rfl, bB⟩
    replace o9 := own_call (by repeat (first | with_reducible exact o9 | (with_reducible apply own_set_; case hne => first | skip) | with_reducible (apply own_alloc_) | with_reducible (apply own_drew_))) bB
    replace hB := Below.via (w := w) (by have hs_ := hB.size; repeat (first | with_reducible exact hB | with_reducible (refine Below.setCell ?_ (by simp <;> omega) _) | with_reducible (refine Below.alloc ?_ (by first | exact hs_ | (simp <;> omega)) _) | with_reducible (refine Below.drew ?_))) bB
    clear bB
    go_wp2_with fail
    refine (K.out A9 c9 _ (own_rd (by repeat (first | with_reducible exact o9 | (with_reducible apply own_set_; case hne => first | skip) | with_reducible (apply own_alloc_) | with_reducible (apply own_drew_))))).mono ?_
    rintro e u03 ⟨x_, f_, s_, rfl, bB⟩
    replace o9 := own_call (by repeat (first | with_reducible exact o9 | (with_reducible apply own_set_; case hne => first | skip) | with_reducible (apply own_alloc_) | with_reducible (apply own_drew_))) bB
    replace hB := Below.via (w := w) (by have hs_ := hB.size; repeat (first | with_reducible exact hB | with_reducible (refine Below.setCell ?_ (by simp <;> omega) _) | with_reducible (refine Below.alloc ?_ (by first | exact hs_ | (simp <;> omega)) _) | with_reducible (refine Below.drew ?_))) bB
    clear bB
    clear F G K
    rcases CrhE.out with q1 | ⟨q1, q2, q3⟩
    · have F := FrhE.out
      have G := GrhE.out
      have K := KrhE.out
      rw [q1] at F
      obtain ⟨ec, hec⟩ : ∃ ec, rhE LT = ec := ⟨_, rfl⟩
      obtain ⟨ed, hed⟩ : ∃ ed, rhE LA = ed := ⟨_, rfl⟩
      rw [hec] at G
      rw [hed] at K
      clear hec hed q1
      replace F := Lib.hid F
      replace G := Lib.hid G
      replace K := Lib.hid K
      go_wp2_with fail
      refine (F.out _ (HR.out.mv (by have hs_ := hB.size; repeat (first | with_reducible exact hB | with_reducible (refine Below.setCell ?_ (by simp <;> omega) _) | with_reducible (refine Below.alloc ?_ (by first | exact hs_ | (simp <;> omega)) _) | with_reducible (refine Below.drew ?_))))).mono ?_
      rintro e u11 ⟨x_, f_, s_, rfl, bB⟩
      replace o9 := own_call (by repeat (first | with_reducible exact o9 | (with_reducible apply own_set_; case hne => first | skip) | with_reducible (apply own_alloc_) | with_reducible (apply own_drew_))) bB
      replace hB := Below.via (w := w) (by have hs_ := hB.size; repeat (first | with_reducible exact hB | with_reducible (refine Below.setCell ?_ (by simp <;> omega) _) | with_reducible (refine Below.alloc ?_ (by first | exact hs_ | (simp <;> omega)) _) | with_reducible (refine Below.drew ?_))) bB
      clear bB
      go_wp2_with fail
      refine (G.out _ (HRP.out.mv (by have hs_ := hB.size; repeat (first | with_reducible exact hB | with_reducible (refine Below.setCell ?_ (by simp <;> omega) _) | with_reducible (refine Below.alloc ?_ (by first | exact hs_ | (simp <;> omega)) _) | with_reducible (refine Below.drew ?_))))).mono ?_
      rintro e u12 ⟨x_, f_, s_, rfl, bB⟩
      replace o9 := own_call (by repeat (first | with_reducible exact o9 | (with_reducible apply own_set_; case hne => first | skip) | with_reducible (apply own_alloc_) | with_reducible (apply own_drew_))) bB
      replace hB := Below.via (w := w) (by have hs_ := hB.size; repeat (first | with_reducible exact hB | with_reducible (refine Below.setCell ?_ (by simp <;> omega) _) | with_reducible (refine Below.alloc ?_ (by first | exact hs_ | (simp <;> omega)) _) | with_reducible (refine Below.drew ?_))) bB
      clear bB
      go_wp2_with fail
      refine (K.out A9 c9 _ (own_rd (by repeat (first | with_reducible exact o9 | (with_reducible apply own_set_; case hne => first | skip) | with_reducible (apply own_alloc_) | with_reducible (apply own_drew_))))).mono ?_
      rintro e u13 ⟨x_, f_, s_, rfl, bB⟩
      replace o9 := own_call (by repeat (first | with_reducible exact o9 | (with_reducible apply own_set_; case hne => first | skip) | with_reducible (apply own_alloc_) | with_reducible (apply own_drew_))) bB
      replace hB := Below.via (w := w) (by have hs_ := hB.size; repeat (first | with_reducible exact hB | with_reducible (refine Below.setCell ?_ (by simp <;> omega) _) | with_reducible (refine Below.alloc ?_ (by first | exact hs_ | (simp <;> omega)) _) | with_reducible (refine Below.drew ?_))) bB
      clear bB
      clear F G K
      rcases CrcE.out with q1 | ⟨q1, q2, q3⟩
      · have F := FrcE.out
        have G := GrcE.out
        have K := KrcE.out
        rw [q1] at F
        obtain ⟨ec, hec⟩ : ∃ ec, rcE LT = ec := ⟨_, rfl⟩
        obtain ⟨ed, hed⟩ : ∃ ed, rcE LA = ed := ⟨_, rfl⟩
        rw [hec] at G
        rw [hed] at K
        clear hec hed q1
        replace F := Lib.hid F
        replace G := Lib.hid G
        replace K := Lib.hid K
        go_wp2_with fail
        refine (F.out _ (HR.out.mv (by have hs_ := hB.size; repeat (first | with_reducible exact hB | with_reducible (refine Below.setCell ?_ (by simp <;> omega) _) | with_reducible (refine Below.alloc ?_ (by first | exact hs_ | (simp <;> omega)) _) | with_reducible (refine Below.drew ?_))))).mono ?_
        rintro e u21 ⟨x_, f_, s_, rfl, bB⟩
        replace o9 := own_call (by repeat (first | with_reducible exact o9 | (with_reducible apply own_set_; case hne => first | skip) | with_reducible (apply own_alloc_) | with_reducible (apply own_drew_))) bB
        replace hB := Below.via (w := w) (by have hs_ := hB.size; repeat (first | with_reducible exact hB | with_reducible (refine Below.setCell ?_ (by simp <;> omega) _) | with_reducible (refine Below.alloc ?_ (by first | exact hs_ | (simp <;> omega)) _) | with_reducible (refine Below.drew ?_))) bB
        clear bB
        go_wp2_with fail
        refine (G.out _ (HRP.out.mv (by have hs_ := hB.size; repeat (first | with_reducible exact hB | with_reducible (refine Below.setCell ?_ (by simp <;> omega) _) | with_reducible (refine Below.alloc ?_ (by first | exact hs_ | (simp <;> omega)) _) | with_reducible (refine Below.drew ?_))))).mono ?_
        rintro e u22 ⟨x_, f_, s_, rfl, bB⟩
        replace o9 := own_call (by repeat (first | with_reducible exact o9 | (with_reducible apply own_set_; case hne => first | skip) | with_reducible (apply own_alloc_) | with_reducible (apply own_drew_))) bB
        replace hB := Below.via (w := w) (by have hs_ := hB.size; repeat (first | with_reducible exact hB | with_reducible (refine Below.setCell ?_ (by simp <;> omega) _) | with_reducible (refine Below.alloc ?_ (by first | exact hs_ | (simp <;> omega)) _) | with_reducible (refine Below.drew ?_))) bB
        clear bB
        go_wp2_with fail
        refine (K.out A9 c9 _ (own_rd (by repeat (first | with_reducible exact o9 | (with_reducible apply own_set_; case hne => first | skip) | with_reducible (apply own_alloc_) | with_reducible (apply own_drew_))))).mono ?_
        rintro e u23 ⟨x_, f_, s_, rfl, bB⟩
        replace o9 := own_call (by repeat (first | with_reducible exact o9 | (with_reducible apply own_set_; case hne => first | skip) | with_reducible (apply own_alloc_) | with_reducible (apply own_drew_))) bB
        replace hB := Below.via (w := w) (by have hs_ := hB.size; repeat (first | with_reducible exact hB | with_reducible (refine Below.setCell ?_ (by simp <;> omega) _) | with_reducible (refine Below.alloc ?_ (by first | exact hs_ | (simp <;> omega)) _) | with_reducible (refine Below.drew ?_))) bB
        clear bB
        clear F G K
        go_wp2_with fail
        go_ret
        exact ⟨rfl, (by have hs_ := hB.size; repeat (first | with_reducible exact hB | with_reducible (refine Below.setCell ?_ (by simp <;> omega) _) | with_reducible (refine Below.alloc ?_ (by first | exact hs_ | (simp <;> omega)) _) | with_reducible (refine Below.drew ?_)))⟩
      · have F := FrcE.out
        have G := GrcE.out
        have K := KrcE.out
        rw [q1] at F
        rw [q2] at G
        rw [q3] at K
        clear q1 q2 q3
        replace F := Lib.hid F
        replace G := Lib.hid G
        replace K := Lib.hid K
        go_wp2_with fail
        refine (F.out _ (HR.out.mv (by have hs_ := hB.size; repeat (first | with_reducible exact hB | with_reducible (refine Below.setCell ?_ (by simp <;> omega) _) | with_reducible (refine Below.alloc ?_ (by first | exact hs_ | (simp <;> omega)) _) | with_reducible (refine Below.drew ?_))))).mono ?_
        rintro e u21 ⟨x_, f_, s_, rfl, bB⟩
        replace o9 := own_call (by repeat (first | with_reducible exact o9 | (with_reducible apply own_set_; case hne => first | skip) | with_reducible (apply own_alloc_) | with_reducible (apply own_drew_))) bB
        replace hB := Below.via (w := w) (by have hs_ := hB.size; repeat (first | with_reducible exact hB | with_reducible (refine Below.setCell ?_ (by simp <;> omega) _) | with_reducible (refine Below.alloc ?_ (by first | exact hs_ | (simp <;> omega)) _) | with_reducible (refine Below.drew ?_))) bB
        clear bB
        go_wp2_with fail
        refine (G.out _ (HRP.out.mv (by have hs_ := hB.size; repeat (first | with_reducible exact hB | with_reducible (refine Below.setCell ?_ (by simp <;> omega) _) | with_reducible (refine Below.alloc ?_ (by first | exact hs_ | (simp <;> omega)) _) | with_reducible (refine Below.drew ?_))))).mono ?_
        rintro e u22 ⟨x_, f_, s_, rfl, bB⟩
        replace o9 := own_call (by repeat (first | with_reducible exact o9 | (with_reducible apply own_set_; case hne => first | skip) | with_reducible (apply own_alloc_) | with_reducible (apply own_drew_))) bB
        replace hB := Below.via (w := w) (by have hs_ := hB.size; repeat (first | with_reducible exact hB | with_reducible (refine Below.setCell ?_ (by simp <;> omega) _) | with_reducible (refine Below.alloc ?_ (by first | exact hs_ | (simp <;> omega)) _) | with_reducible (refine Below.drew ?_))) bB
        clear bB
        go_wp2_with fail
        refine (K.out A9 c9 _ (own_rd (by repeat (first | with_reducible exact o9 | (with_reducible apply own_set_; case hne => first | skip) | with_reducible (apply own_alloc_) | with_reducible (apply own_drew_))))).mono ?_
        rintro e u23 ⟨x_, f_, s_, rfl, bB⟩
        replace o9 := own_call (by repeat (first | with_reducible exact o9 | (with_reducible apply own_set_; case hne => first | skip) | with_reducible (apply own_alloc_) | with_reducible (apply own_drew_))) bB
        replace hB := Below.via (w := w) (by have hs_ := hB.size; repeat (first | with_reducible exact hB | with_reducible (refine Below.setCell ?_ (by simp <;> omega) _) | with_reducible (refine Below.alloc ?_ (by first | exact hs_ | (simp <;> omega)) _) | with_reducible (refine Below.drew ?_))) bB
        clear bB
        clear F G K
        go_wp2_with fail
        go_ret
        exact ⟨rfl, (by have hs_ := hB.size; repeat (first | with_reducible exact hB | with_reducible (refine Below.setCell ?_ (by simp <;> omega) _) | with_reducible (refine Below.alloc ?_ (by first | exact hs_ | (simp <;> omega)) _) | with_reducible (refine Below.drew ?_)))⟩
    · have F := FrhE.out
      have G := GrhE.out
      have K := KrhE.out
      rw [q1] at F
      rw [q2] at G
      rw [q3] at K
      clear q1 q2 q3
      replace F := Lib.hid F
      replace G := Lib.hid G
      replace K := Lib.hid K
      go_wp2_with fail
      refine (F.out _ (HR.out.mv (by have hs_ := hB.size; repeat (first | with_reducible exact hB | with_reducible (refine Below.setCell ?_ (by simp <;> omega) _) | with_reducible (refine Below.alloc ?_ (by first | exact hs_ | (simp <;> omega)) _) | with_reducible (refine Below.drew ?_))))).mono ?_
      rintro e u11 ⟨x_, f_, s_, rfl, bB⟩
      replace o9 := own_call (by repeat (first | with_reducible exact o9 | (with_reducible apply own_set_; case hne => first | skip) | with_reducible (apply own_alloc_) | with_reducible (apply own_drew_))) bB
      replace hB := Below.via (w := w) (by have hs_ := hB.size; repeat (first | with_reducible exact hB | with_reducible (refine Below.setCell ?_ (by simp <;> omega) _) | with_reducible (refine Below.alloc ?_ (by first | exact hs_ | (simp <;> omega)) _) | with_reducible (refine Below.drew ?_))) bB
      clear bB
      go_wp2_with fail
      refine (G.out _ (HRP.out.mv (by have hs_ := hB.size; repeat (first | with_reducible exact hB | with_reducible (refine Below.setCell ?_ (by simp <;> omega) _) | with_reducible (refine Below.alloc ?_ (by first | exact hs_ | (simp <;> omega)) _) | with_reducible (refine Below.drew ?_))))).mono ?_
      rintro e u12 ⟨x_, f_, s_, rfl, bB⟩
      replace o9 := own_call (by repeat (first | with_reducible exact o9 | (with_reducible apply own_set_; case hne => first | skip) | with_reducible (apply own_alloc_) | with_reducible (apply own_drew_))) bB
      replace hB := Below.via (w := w) (by have hs_ := hB.size; repeat (first | with_reducible exact hB | with_reducible (refine Below.setCell ?_ (by simp <;> omega) _) | with_reducible (refine Below.alloc ?_ (by first | exact hs_ | (simp <;> omega)) _) | with_reducible (refine Below.drew ?_))) bB
      clear bB
      go_wp2_with fail
      refine (K.out A9 c9 _ (own_rd (by repeat (first | with_reducible exact o9 | (with_reducible apply own_set_; case hne => first | skip) | with_reducible (apply own_alloc_) | with_reducible (apply own_drew_))))).mono ?_
      rintro e u13 ⟨x_, f_, s_, rfl, bB⟩
      replace o9 := own_call (by repeat (first | with_reducible exact o9 | (with_reducible apply own_set_; case hne => first | skip) | with_reducible (apply own_alloc_) | with_reducible (apply own_drew_))) bB
      replace hB := Below.via (w := w) (by have hs_ := hB.size; repeat (first | with_reducible exact hB | with_reducible (refine Below.setCell ?_ (by simp <;> omega) _) | with_reducible (refine Below.alloc ?_ (by first | exact hs_ | (simp <;> omega)) _) | with_reducible (refine Below.drew ?_))) bB
      clear bB
      clear F G K
      rcases CrcE.out with q1 | ⟨q1, q2, q3⟩
      · have F := FrcE.out
        have G := GrcE.out
        have K := KrcE.out
        rw [q1] at F
        obtain ⟨ec, hec⟩ : ∃ ec, rcE LT = ec := ⟨_, rfl⟩
        obtain ⟨ed, hed⟩ : ∃ ed, rcE LA = ed := ⟨_, rfl⟩
        rw [hec] at G
        rw [hed] at K
        clear hec hed q1
        replace F := Lib.hid F
        replace G := Lib.hid G
        replace K := Lib.hid K
        go_wp2_with fail
        refine (F.out _ (HR.out.mv (by have hs_ := hB.size; repeat (first | with_reducible exact hB | with_reducible (refine Below.setCell ?_ (by simp <;> omega) _) | with_reducible (refine Below.alloc ?_ (by first | exact hs_ | (simp <;> omega)) _) | with_reducible (refine Below.drew ?_))))).mono ?_
        rintro e u21 ⟨x_, f_, s_, rfl, bB⟩
        replace o9 := own_call (by repeat (first | with_reducible exact o9 | (with_reducible apply own_set_; case hne => first | skip) | with_reducible (apply own_alloc_) | with_reducible (apply own_drew_))) bB
        replace hB := Below.via (w := w) (by have hs_ := hB.size; repeat (first | with_reducible exact hB | with_reducible (refine Below.setCell ?_ (by simp <;> omega) _) | with_reducible (refine Below.alloc ?_ (by first | exact hs_ | (simp <;> omega)) _) | with_reducible (refine Below.drew ?_))) bB
        clear bB
        go_wp2_with fail
        refine (G.out _ (HRP.out.mv (by have hs_ := hB.size; repeat (first | with_reducible exact hB | with_reducible (refine Below.setCell ?_ (by simp <;> omega) _) | with_reducible (refine Below.alloc ?_ (by first | exact hs_ | (simp <;> omega)) _) | with_reducible (refine Below.drew ?_))))).mono ?_
        rintro e u22 ⟨x_, f_, s_, rfl, bB⟩
        replace o9 := own_call (by repeat (first | with_reducible exact o9 | (with_reducible apply own_set_; case hne => first | skip) | with_reducible (apply own_alloc_) | with_reducible (apply own_drew_))) bB
        replace hB := Below.via (w := w) (by have hs_ := hB.size; repeat (first | with_reducible exact hB | with_reducible (refine Below.setCell ?_ (by simp <;> omega) _) | with_reducible (refine Below.alloc ?_ (by first | exact hs_ | (simp <;> omega)) _) | with_reducible (refine Below.drew ?_))) bB
        clear bB
        go_wp2_with fail
        refine (K.out A9 c9 _ (own_rd (by repeat (first | with_reducible exact o9 | (with_reducible apply own_set_; case hne => first | skip) | with_reducible (apply own_alloc_) | with_reducible (apply own_drew_))))).mono ?_
        rintro e u23 ⟨x_, f_, s_, rfl, bB⟩
        replace o9 := own_call (by repeat (first | with_reducible exact o9 | (with_reducible apply own_set_; case hne => first | skip) | with_reducible (apply own_alloc_) | with_reducible (apply own_drew_))) bB
        replace hB := Below.via (w := w) (by have hs_ := hB.size; repeat (first | with_reducible exact hB | with_reducible (refine Below.setCell ?_ (by simp <;> omega) _) | with_reducible (refine Below.alloc ?_ (by first | exact hs_ | (simp <;> omega)) _) | with_reducible (refine Below.drew ?_))) bB
        clear bB
        clear F G K
        go_wp2_with fail
        go_ret
        exact ⟨rfl, (by have hs_ := hB.size; repeat (first | with_reducible exact hB | with_reducible (refine Below.setCell ?_ (by simp <;> omega) _) | with_reducible (refine Below.alloc ?_ (by first | exact hs_ | (simp <;> omega)) _) | with_reducible (refine Below.drew ?_)))⟩
      · have F := FrcE.out
        have G := GrcE.out
        have K := KrcE.out
        rw [q1] at F
        rw [q2] at G
        rw [q3] at K
        clear q1 q2 q3
        replace F := Lib.hid F
        replace G := Lib.hid G
        replace K := Lib.hid K
        go_wp2_with fail
        refine (F.out _ (HR.out.mv (by have hs_ := hB.size; repeat (first | with_reducible exact hB | with_reducible (refine Below.setCell ?_ (by simp <;> omega) _) | with_reducible (refine Below.alloc ?_ (by first | exact hs_ | (simp <;> omega)) _) | with_reducible (refine Below.drew ?_))))).mono ?_
        rintro e u21 ⟨x_, f_, s_, rfl, bB⟩
        replace o9 := own_call (by repeat (first | with_reducible exact o9 | (with_reducible apply own_set_; case hne => first | skip) | with_reducible (apply own_alloc_) | with_reducible (apply own_drew_))) bB
        replace hB := Below.via (w := w) (by have hs_ := hB.size; repeat (first | with_reducible exact hB | with_reducible (refine Below.setCell ?_ (by simp <;> omega) _) | with_reducible (refine Below.alloc ?_ (by first | exact hs_ | (simp <;> omega)) _) | with_reducible (refine Below.drew ?_))) bB
        clear bB
        go_wp2_with fail
        refine (G.out _ (HRP.out.mv (by have hs_ := hB.size; repeat (first | with_reducible exact hB | with_reducible (refine Below.setCell ?_ (by simp <;> omega) _) | with_reducible (refine Below.alloc ?_ (by first | exact hs_ | (simp <;> omega)) _) | with_reducible (refine Below.drew ?_))))).mono ?_
        rintro e u22 ⟨x_, f_, s_, rfl, bB⟩
        replace o9 := own_call (by repeat (first | with_reducible exact o9 | (with_reducible apply own_set_; case hne => first | skip) | with_reducible (apply own_alloc_) | with_reducible (apply own_drew_))) bB
        replace hB := Below.via (w := w) (by have hs_ := hB.size; repeat (first | with_reducible exact hB | with_reducible (refine Below.setCell ?_ (by simp <;> omega) _) | with_reducible (refine Below.alloc ?_ (by first | exact hs_ | (simp <;> omega)) _) | with_reducible (refine Below.drew ?_))) bB
        clear bB
        go_wp2_with fail
        refine (K.out A9 c9 _ (own_rd (by repeat (first | with_reducible exact o9 | (with_reducible apply own_set_; case hne => first | skip) | with_reducible (apply own_alloc_) | with_reducible (apply own_drew_))))).mono ?_
        rintro e u23 ⟨x_, f_, s_, rfl, bB⟩
        replace o9 := own_call (by repeat (first | with_reducible exact o9 | (with_reducible apply own_set_; case hne => first | skip) | with_reducible (apply own_alloc_) | with_reducible (apply own_drew_))) bB
        replace hB := Below.via (w := w) (by have hs_ := hB.size; repeat (first | with_reducible exact hB | with_reducible (refine Below.setCell ?_ (by simp <;> omega) _) | with_reducible (refine Below.alloc ?_ (by first | exact hs_ | (simp <;> omega)) _) | with_reducible (refine Below.drew ?_))) bB
        clear bB
        clear F G K
        go_wp2_with fail
        go_ret
        exact ⟨rfl, (by have hs_ := hB.size; repeat (first | with_reducible exact hB | with_reducible (refine Below.setCell ?_ (by simp <;> omega) _) | with_reducible (refine Below.alloc ?_ (by first | exact hs_ | (simp <;> omega)) _) | with_reducible (refine Below.drew ?_)))⟩

end Go.Proofs.Ytljpggebpfpelaa
