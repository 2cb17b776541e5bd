/- Contracts and laws of a chapter that its statement of names leans on. Each states its conditions. -/
import Derived.Test.YtldaijkcmnnjpaaHd14
import Derived.Test.YtldaijkcmnnjpaaHd15
namespace Go.Proofs.Ytldaijkcmnnjpaa
open Go.RowKit Wire
set_option linter.unusedVariables false
theorem slU64 : IsSl Try.prog 62 55 (.int .u64 0) 1 8 := ⟨Try.underlying62, by kernel_rfl, rfl, by omega, by omega⟩
theorem slUS : IsSl Try.prog 100 62 (.slice none 0 0) 1 24 := ⟨Try.underlying100, by kernel_rfl, rfl, by omega, by omega⟩
theorem own_growNe {w w' : World} {base base' : Nat} {e e' : TypeId} {size size' n n' : Nat} {v v' : Value} {xs xs' : List Value} (h : w.ownsRow base e size v n xs) (h' : w.ownsRow base' e' size' v' n' xs') (hne : e ≠ e') (hg : w.grownBy w' v'.ownBlock) : w'.ownsRow base e size v n xs := by
  refine ⟨h.1, ?_⟩
  rcases h.2 with h2 | ⟨k, cap, c, h1, h2, h3, h4⟩
  · exact .inl h2
  refine .inr ⟨k, cap, c, h1, h2, (hg.block k (heap_lt h3) (fun e2 => ?_)).trans h3, h4⟩
  rcases h'.2 with ⟨rfl, _⟩ | ⟨k', cap', c', rfl, _, hh', _⟩
  · simp [Value.ownBlock] at e2
  · simp [Value.ownBlock] at e2
    subst e2
    have := h3.symm.trans hh'
    simp at this
    exact hne this.2
/-- Slices of uint64, each one in a block of its own, made behind B. -/
def Inn (w : World) (B : Nat) (vs : List Value) (LL : List (List Nat)) : Prop :=
  vs.length = LL.length ∧ ∀ (k : Nat) (li : List Nat), LL[k]? = some li → ∃ Ai ci, vs[k]? = some (.slice Ai li.length ci) ∧ (li.length ≤ ci ∧ ci ≤ 9223372036854775807) ∧ w.ownsRow B 55 1 (.slice Ai li.length ci) li.length (li.map vU) ∧ ∀ x ∈ li, x < 18446744073709551616
theorem Inn.map {w w' : World} {B : Nat} {vs : List Value} {LL : List (List Nat)} (h : Inn w B vs LL) (hm : ∀ (v : Value) (n : Nat) (xs : List Value), w.ownsRow B 55 1 v n xs → w'.ownsRow B 55 1 v n xs) : Inn w' B vs LL := by
  refine ⟨h.1, fun k li hk => ?_⟩
  obtain ⟨Ai, ci, h1, h2, h3, h4⟩ := h.2 k li hk
  exact ⟨Ai, ci, h1, h2, hm _ _ _ h3, h4⟩
theorem Inn.nil (w : World) (B : Nat) : Inn w B [] [] := ⟨rfl, fun k li hk => by simp at hk⟩
theorem Inn.viax {w w' : World} {B g : Nat} {vs : List Value} {LL : List (List Nat)} (h : Inn w B vs LL) (hg : g < B) (b : BelowX w.heap.size g w w') : Inn w' B vs LL := h.map fun v n xs ho => own_viax ho (own_not_lt ho hg) b
theorem Inn.al {w : World} {B : Nat} {vs : List Value} {LL : List (List Nat)} (h : Inn w B vs LL) (ob_ : Obj) : Inn (w.alloc ob_) B vs LL := h.map fun v n xs ho => own_alloc_ ho ob_
theorem Inn.snoc {w : World} {B : Nat} {vs : List Value} {LL : List (List Nat)} {li : List Nat} {A : Option Addr} {n c : Nat} (h : Inn w B vs LL) (ho : w.ownsRow B 55 1 (.slice A n c) n (li.map vU)) (hl : li.length = n) (hx : ∀ x ∈ li, x < 18446744073709551616) : Inn w B (vs ++ [.slice A n c]) (LL ++ [li]) := by
  refine ⟨by simp [h.1], fun k l2 hk => ?_⟩
  by_cases hkl : k < LL.length
  · rw [List.getElem?_append_left hkl] at hk
    obtain ⟨Ai, ci, h1, h2, h3, h4⟩ := h.2 k l2 hk
    exact ⟨Ai, ci, by rw [List.getElem?_append_left (by rw [h.1]; exact hkl)]; exact h1, h2, h3, h4⟩
  · rw [List.getElem?_append_right (by omega)] at hk
    have h0 : k - LL.length = 0 := by
      have := (List.getElem?_eq_some_iff.1 hk).1
      simp at this; omega
    rw [h0] at hk
    simp at hk
    subst hk
    obtain ⟨A', c', hv, _, k1, k2⟩ := own_slice ho
    injection hv with e1 e2 e3
    subst e1 e3
    subst hl
    exact ⟨A, c, by rw [List.getElem?_append_right (by rw [h.1]; omega), h.1, h0]; rfl, ⟨k1, k2⟩, ho, hx⟩
theorem Inn.rdC {w : World} {B B' : Nat} {vs : List Value} {LL : List (List Nat)} {A : Option Addr} {n c : Nat} (h : Inn w B vs LL) (ho : w.ownsRow B' 62 1 (.slice A n c) n vs) (hl : LL.length = n) : RdC w A n LL := by
  refine ⟨hl, vs, own_reads ho, fun k li hk => ?_⟩
  obtain ⟨Ai, ci, h1, h2, h3, h4⟩ := h.2 k li hk
  exact ⟨Ai, ci, h1, h2, own_reads h3, h4⟩
/-- What has been read of a list of addresses. -/
def AdS (l : List UInt8) (a0 : Nat) (b0 : Bool) (k t : Nat) (li : List Nat) (a : Nat) (bd : Bool) : Prop :=
  (b0 = true → bd = true) ∧ (b0 = false → (bd = true → pAd l k a0 = none) ∧ (bd = false → pAd l k a0 = (pAd l (k - t) a).map fun p => (li ++ p.1, p.2))) ∧ a ≤ l.length
theorem adS_start {l : List UInt8} {a0 k : Nat} {b0 : Bool} (h : a0 ≤ l.length) : AdS l a0 b0 k 0 [] a0 b0 :=
  ⟨fun h => h, fun h => ⟨fun e => (by rw [h] at e; cases e), fun _ => by simp⟩, h⟩
theorem adS_step {l : List UInt8} {a0 k t a a1 v : Nat} {b0 bd b1 : Bool} {li : List Nat} (h : AdS l a0 b0 k t li a bd) (ht : t < k) (h1 : NmS l a bd 2305843009213693951 v a1 b1) : AdS l a0 b0 k (t + 1) (li ++ [8 * v]) a1 b1 := by
  obtain ⟨g1, g2, g3⟩ := h
  obtain ⟨p1, p2, p3, p4⟩ := h1
  have hn : k - t = (k - (t + 1)) + 1 := by omega
  refine ⟨fun e => p3 (g1 e), fun e => ⟨?_, ?_⟩, p2⟩
  · rintro rfl
    cases bd with
    | true => exact (g2 e).1 rfl
    | false =>
      rw [(g2 e).2 rfl, hn]
      rcases p4 rfl with ⟨_, q⟩ | ⟨q, _⟩
      · unfold pAd; rw [q]; rfl
      · cases q
  · rintro rfl
    have e0 : bd = false := by cases bd with | false => rfl | true => exact absurd (p3 rfl) (by simp)
    subst e0
    rcases p4 rfl with ⟨q, _⟩ | ⟨_, q⟩
    · cases q
    rw [(g2 e).2 rfl, hn]
    conv => lhs; unfold pAd
    rw [q, Option.bind_some]
    simp only
    cases pAd l (k - (t + 1)) a1 with
    | none => rfl
    | some q => simp
/-- What has been read of chains. -/
def CsS (l : List UInt8) (n j : Nat) (LL : List (List Nat)) (a : Nat) (bd : Bool) : Prop :=
  (bd = true → rchs l = none) ∧ (bd = false → rchs l = (pChs l (n - j) a).map fun p => (LL ++ p.1, p.2)) ∧ a ≤ l.length
theorem csS_of {l : List UInt8} {n a : Nat} {bd : Bool} (h : NmS l 0 false 16 n a bd) : CsS l n 0 [] a bd := by
  obtain ⟨p1, p2, p3, p4⟩ := h
  refine ⟨?_, ?_, p2⟩
  · rintro rfl
    rcases p4 rfl with ⟨_, k⟩ | ⟨k, _⟩
    · unfold rchs; rw [k]; rfl
    · cases k
  · rintro rfl
    rcases p4 rfl with ⟨k, _⟩ | ⟨_, k⟩
    · cases k
    · unfold rchs; rw [k]; simp
theorem csS_end {l : List UInt8} {n : Nat} {L : List (List Nat)} {a : Nat} {bd : Bool} (h : CsS l n n L a bd) : a ≤ l.length ∧ (bd = true → rch l = none) ∧ (bd = false → rch l = if a = l.length ∧ csB L = true then some L else none) := by
  obtain ⟨h1, h2, h3⟩ := h
  refine ⟨h3, fun e => ?_, fun e => ?_⟩
  · unfold rch; rw [h1 e]; rfl
  · have h2 := h2 e
    rw [Nat.sub_self] at h2
    unfold rch
    rw [h2]
    simp [pChs]
theorem csS_step {l : List UInt8} {n j k a a0 a1 : Nat} {LL : List (List Nat)} {li : List Nat} {bd b0 b1 : Bool} (h : CsS l n j LL a bd) (hj : j < n) (h1 : NmS l a bd 410 k a0 b0) (h2 : AdS l a0 b0 k k li a1 b1) : CsS l n (j + 1) (LL ++ [li]) a1 b1 := by
  obtain ⟨g1, g2, g3⟩ := h
  obtain ⟨p1, p2, p3, p4⟩ := h1
  obtain ⟨q1, q2, q3⟩ := h2
  have hn : n - j = (n - (j + 1)) + 1 := by omega
  refine ⟨?_, ?_, q3⟩
  · rintro rfl
    cases bd with
    | true => exact g1 rfl
    | false =>
      rw [g2 rfl, hn]
      suffices hs : pCh l a = none by unfold pChs; rw [hs]; rfl
      unfold pCh
      rcases p4 rfl with ⟨rfl, r⟩ | ⟨rfl, r⟩
      · rw [r]; rfl
      · rw [r, Option.bind_some]; exact (q2 rfl).1 rfl
  · rintro rfl
    have e0 : b0 = false := by cases b0 with | false => rfl | true => exact absurd (q1 rfl) (by simp)
    subst e0
    have e1 : bd = false := by cases bd with | false => rfl | true => exact absurd (p3 rfl) (by simp)
    subst e1
    rcases p4 rfl with ⟨r, _⟩ | ⟨_, r⟩
    · cases r
    have hp : pCh l a = some (li, a1) := by
      unfold pCh
      rw [r, Option.bind_some]
      simp only
      rw [(q2 rfl).2 rfl, Nat.sub_self]
      simp [pAd]
    rw [g2 rfl, hn]
    conv => lhs; unfold pChs
    rw [hp, Option.bind_some]
    simp only
    cases pChs l (n - (j + 1)) a1 with
    | none => rfl
    | some q => simp
set_option maxRecDepth 100000 in
set_option maxHeartbeats 6400000 in
theorem readChains1_any (g : Nat) (A : Option Addr) (n c : Nat) (l : List UInt8) (hnc : n ≤ c) (w : World) (hk : Blk w g 178 #[.slice A n c, .int .i64 0, .bool false]) (hr : RdB w g A n l) (hn : l.length ≤ 200000) :
    Calls Try.prog 94 #[.pointer (some ⟨g, 0, none⟩)] w fun e w' => ∃ (A' : Option Addr) (m c' : Nat) (LL : List (List Nat)) (a' : Nat) (bd' : Bool), e = .returned (.slice A' m c') ∧ RdC w' A' m LL ∧ m ≤ 16 ∧ (a' ≤ l.length ∧ (bd' = true → rch l = none) ∧ (bd' = false → rch l = if a' = l.length ∧ csB LL = true then some LL else none)) ∧ Blk w' g 178 #[.slice A n c, .int .i64 (a' : Int), .bool bd'] ∧ BelowX w.heap.size g w w' := by
  have hgl := hk.lt
  have HR := Lib.hid hr
  clear hr
  have hk0 : Blk w g 178 #[.slice A n c, .int .i64 ((0 : Nat) : Int), .bool false] := hk
  clear hk
  have hk := hk0
  clear hk0
  have hB := BelowX.refl w.heap.size g w
  go_enter Try.func94, Try.ntmps94
  go_wp2_with fail
  have z1 := hk.lt
  refine (number_any g A n c 0 false l 16 (by omega) _ (by repeat (first | with_reducible exact hk | with_reducible (apply Blk.set_) | with_reducible (apply Blk.far; case hp => (simp <;> omega)) | with_reducible (apply Blk.alloc) | with_reducible (apply Blk.drew))) (Reads.below HR.out (BelowX.below (by have hs_ := hB.size; repeat (first | with_reducible exact hB | with_reducible exact BelowX.refl _ _ _ | with_reducible (refine BelowX.setO ?_ (by first | (exact Or.inl rfl) | (exact Or.inr (by simp <;> omega))) _) | with_reducible (refine BelowX.al ?_ (by first | exact hs_ | (simp <;> omega)) _) | with_reducible (refine BelowX.drew ?_))) (Nat.le_of_lt hgl) (Nat.le_refl _))) hn (by omega)).mono ?_
  rintro e w0 ⟨m, a0, b0, rfl, h0, hk_, bB⟩
  have hBs := hB.size
  replace hB := BelowX.via (B := w.heap.size) (u := w) (by have hs_ := hB.size; repeat (first | with_reducible exact hB | with_reducible exact BelowX.refl _ _ _ | with_reducible (refine BelowX.setO ?_ (by first | (exact Or.inl rfl) | (exact Or.inr (by simp <;> omega))) _) | with_reducible (refine BelowX.al ?_ (by first | exact hs_ | (simp <;> omega)) _) | with_reducible (refine BelowX.drew ?_))) (by first | omega | (simp <;> omega)) bB
  clear hBs
  replace hk := hk_
  clear hk_
  clear z1
  clear bB
  have H0 := Lib.hid (csS_of h0)
  have hm := h0.1
  clear h0
  have hwm : IntKind.i64.wrap (m : Int) = (m : Int) := by rw [IntKind.wrap_i64]; omega
  go_wp2_with fail
  go_loopw [3, 8] (fun v i wr => ∃ (j : Nat) (A1 : Option Addr) (c1 : Nat) (LL : List (List Nat)) (vs : List Value) (a1 : Nat) (b1 : Bool), j ≤ m ∧ i = .int .i64 (j : Int) ∧ v = .slice A1 j c1 ∧ wr.ownsRow w.heap.size 62 1 (.slice A1 j c1) j vs ∧ Inn wr w.heap.size vs LL ∧ LL.length = j ∧ CsS l m j LL a1 b1 ∧ Blk wr g 178 #[.slice A n c, .int .i64 (a1 : Int), .bool b1] ∧ BelowX w.heap.size g w wr) (fun _ i _ => m - (intOf i).toNat)
  case atStart => exact ⟨0, none, 0, [], [], a0, b0, by omega, rfl, rfl, World.ownsRow_nil _ _ _ _, Inn.nil _ _, rfl, H0.out, hk, hB⟩
  case round =>
    clear hk hB H0
    obtain ⟨j, A1, c1, LL, vs, a1, b1, hj, rfl, rfl, o1, hI, hL, hS, hk, hB⟩ := hrel
    have HS := Lib.hid hS
    have i1 := hS.2.2
    have HL := Lib.hid hL
    clear hS hL
    by_cases hlt : j < m
    · have ne_o1_hk : (Value.slice A1 j c1).ownBlock ≠ some g := own_not_lt o1 hgl
      go_wp2_with fail
      have z2 := hk.lt
      refine (number_any g A n c a1 b1 l 410 (by omega) _ (by repeat (first | with_reducible exact hk | with_reducible (apply Blk.set_) | with_reducible (apply Blk.far; case hp => (simp <;> omega)) | with_reducible (apply Blk.alloc) | with_reducible (apply Blk.drew))) (Reads.below HR.out (BelowX.below (by have hs_ := hB.size; repeat (first | with_reducible exact hB | with_reducible exact BelowX.refl _ _ _ | with_reducible (refine BelowX.setO ?_ (by first | (exact Or.inl rfl) | (exact Or.inr (by simp <;> omega))) _) | with_reducible (refine BelowX.al ?_ (by first | exact hs_ | (simp <;> omega)) _) | with_reducible (refine BelowX.drew ?_))) (Nat.le_of_lt hgl) (Nat.le_refl _))) hn i1).mono ?_
      rintro e w1 ⟨k, a2, b2, rfl, h2, hk_, bB⟩
      replace hI := Inn.viax hI hgl bB
      replace o1 := own_viax (by repeat (first | with_reducible exact o1 | (with_reducible apply own_set_; case hne => first | exact ne_o1_hk) | with_reducible (apply own_alloc_) | with_reducible (apply own_drew_))) ne_o1_hk bB
      have hBs := hB.size
      replace hB := BelowX.via (B := w.heap.size) (u := w) (by have hs_ := hB.size; repeat (first | with_reducible exact hB | with_reducible exact BelowX.refl _ _ _ | with_reducible (refine BelowX.setO ?_ (by first | (exact Or.inl rfl) | (exact Or.inr (by simp <;> omega))) _) | with_reducible (refine BelowX.al ?_ (by first | exact hs_ | (simp <;> omega)) _) | with_reducible (refine BelowX.drew ?_))) (by first | omega | (simp <;> omega)) bB
      clear hBs
      replace hk := hk_
      clear hk_
      clear z2
      clear bB
      have H2 := Lib.hid h2
      have i2 := h2.2.1
      have hk4 := h2.1
      clear h2
      have hwk : IntKind.i64.wrap (k : Int) = (k : Int) := by rw [IntKind.wrap_i64]; omega
      have hgl1 := hk.lt
      go_wp2_with fail
      have HI := Lib.hid hI
      have HO1 := Lib.hid o1
      have HB1 := Lib.hid hB
      clear hI o1 hB
      go_loopw [4, 13] (fun v i wi => ∃ (t : Nat) (A3 : Option Addr) (c3 : Nat) (li : List Nat) (a3 : Nat) (b3 : Bool), t ≤ k ∧ i = .int .i64 (t : Int) ∧ v = .slice A3 t c3 ∧ wi.ownsRow w1.heap.size 55 1 (.slice A3 t c3) t (li.map vU) ∧ li.length = t ∧ (∀ x ∈ li, x < 18446744073709551616) ∧ AdS l a2 b2 k t li a3 b3 ∧ Blk wi g 178 #[.slice A n c, .int .i64 (a3 : Int), .bool b3] ∧ BelowX w1.heap.size g w1 wi) (fun _ i _ => k - (intOf i).toNat)
      case atStart => exact ⟨0, none, 0, [], a2, b2, by omega, rfl, rfl, World.ownsRow_nil _ _ _ _, rfl, by simp, adS_start i2, hk, BelowX.refl _ _ _⟩
      case round =>
        clear hk
        obtain ⟨t, A3, c3, li, a3, b3, ht, rfl, rfl, o3, hl3, hx3, hA, hk, hB⟩ := hrel
        have HA := Lib.hid hA
        have i3 := hA.2.2
        have HL3 := Lib.hid hl3
        have HX3 := Lib.hid hx3
        clear hA hl3 hx3
        by_cases htk : t < k
        · have ne_o3_hk : (Value.slice A3 t c3).ownBlock ≠ some g := own_not_lt o3 hgl1
          go_wp2_with fail
          have z1 := hk.lt
          with_reducible refine (eight_any g A n c a3 b3 l _ (by repeat (first | with_reducible exact hk | with_reducible (apply Blk.set_) | with_reducible (apply Blk.far; case hp => (simp <;> omega)) | with_reducible (apply Blk.alloc) | with_reducible (apply Blk.drew))) (Reads.below HR.out (Below.trans (BelowX.below HB1.out (Nat.le_of_lt hgl) (Nat.le_refl _)) (BelowX.below (by have hs_ := hB.size; repeat (first | with_reducible exact hB | with_reducible exact BelowX.refl _ _ _ | with_reducible (refine BelowX.setO ?_ (by first | (exact Or.inl rfl) | (exact Or.inr (by simp <;> omega))) _) | with_reducible (refine BelowX.al ?_ (by first | exact hs_ | (simp <;> omega)) _) | with_reducible (refine BelowX.drew ?_))) (Nat.le_of_lt hgl1) (Nat.le_refl _)))) hn i3).mono ?_
          rintro e w4 ⟨v, a4, b4, rfl, h4, hk_, bB⟩
          replace o3 := own_viax (by repeat (first | with_reducible exact o3 | (with_reducible apply own_set_; case hne => first | exact ne_o3_hk) | with_reducible (apply own_alloc_) | with_reducible (apply own_drew_))) ne_o3_hk bB
          have hBs := hB.size
          replace hB := BelowX.via (B := w1.heap.size) (u := w1) (by have hs_ := hB.size; repeat (first | with_reducible exact hB | with_reducible exact BelowX.refl _ _ _ | with_reducible (refine BelowX.setO ?_ (by first | (exact Or.inl rfl) | (exact Or.inr (by simp <;> omega))) _) | with_reducible (refine BelowX.al ?_ (by first | exact hs_ | (simp <;> omega)) _) | with_reducible (refine BelowX.drew ?_))) (by first | omega | (simp <;> omega)) bB
          clear hBs
          replace hk := hk_
          clear hk_
          clear z1
          clear bB
          have H4 := Lib.hid h4
          have hv := h4.1
          clear h4
          have HST := Lib.hid (adS_step HA.out htk H4.out)
          obtain ⟨e8, he8⟩ : ∃ e8, 8 * v = e8 := ⟨_, rfl⟩
          rw [he8] at HST ⊢
          have he9 : e8 < 18446744073709551616 := by omega
          clear he8 H4 HA
          go_wp2_with (at_builtin; go_loud (refine wpList_app rfl (.tmp 15) (.tmp 18) _ rfl slU64 w1.heap.size (.slice A3 t c3) t _ (by rfl) (by repeat (first | with_reducible exact o3 | (with_reducible apply own_set_; case hne => first | exact ne_o3_hk) | with_reducible (apply own_alloc_) | with_reducible (apply own_drew_))) _ _ 1 1 [.int .u64 (e8 : Int)] rfl (reads_blk (t := 55) (cs := #[.int .u64 (e8 : Int)]) (Blk.newAt (by simp) _ _) 1 1 rfl) (by simp [Value.oneCell']) (by omega) (by have hs_ := hB.size; simp <;> omega) ?_; intro A5 c5 w5 o5 hg_ b_ hc_; have nw_hk : Blk w5 g 178 #[.slice A n c, .int .i64 (a4 : Int), .bool b4] := Blk.grown (by repeat (first | with_reducible exact hk | with_reducible (apply Blk.set_) | with_reducible (apply Blk.far; case hp => (simp <;> omega)) | with_reducible (apply Blk.alloc) | with_reducible (apply Blk.drew))) hg_ (fun e_ => ne_o3_hk e_.symm); replace hB : BelowX w1.heap.size g w1 w5 := BelowX.trans (by have hs_ := hB.size; repeat (first | with_reducible exact hB | with_reducible exact BelowX.refl _ _ _ | with_reducible (refine BelowX.setO ?_ (by first | (exact Or.inl rfl) | (exact Or.inr (by simp <;> omega))) _) | with_reducible (refine BelowX.al ?_ (by first | exact hs_ | (simp <;> omega)) _) | with_reducible (refine BelowX.drew ?_))) (BelowX.of b_ g); replace hk := nw_hk; clear nw_hk; clear hg_ b_))
          go_roundw
          case rel => exact ⟨t + 1, A5, c5, li ++ [e8], a4, b4, by omega, by go_num, rfl, by simpa [vU] using o5, by simp [HL3.out], by intro y hy; rcases List.mem_append.1 hy with h | h; exact HX3.out y h; simp at h; subst h; exact he9, HST.out, hk, hB⟩
          case measure => simp [intOf]; omega
        · obtain rfl : t = k := by omega
          have HST := Lib.hid (csS_step HS.out hlt H2.out HA.out)
          have hI := Inn.viax HI.out hgl hB
          have ne_o1_hk : (Value.slice A1 j c1).ownBlock ≠ some g := own_not_lt HO1.out hgl
          have o1 := own_viax HO1.out ne_o1_hk hB
          have o3l := own_low o3 (show w.heap.size ≤ w1.heap.size from HB1.out.size)
          replace hI := (Inn.snoc hI o3l HL3.out HX3.out).al (.cells #[.slice A3 t c3] 62)
          replace hB := BelowX.via HB1.out HB1.out.size hB
          clear HS H2 HA HB1 HO1 HI o3 o3l
          go_wp2_with (at_builtin; refine wpList_app rfl (.tmp 21) (.tmp 23) _ rfl slUS w.heap.size (.slice A1 j c1) j vs (by rfl) (by repeat (first | with_reducible exact o1 | (with_reducible apply own_set_; case hne => first | exact ne_o1_hk) | with_reducible (apply own_alloc_) | with_reducible (apply own_drew_))) _ _ 1 1 [.slice A3 t c3] rfl (reads_blk (t := 62) (cs := #[.slice A3 t c3]) (Blk.newAt (by simp) _ _) 1 1 rfl) (by simp [Value.oneCell']) (by omega) (by have hs_ := hB.size; simp <;> omega) ?_; intro A6 c6 w6 o6 hg_ b_ hc_; have nw_hk : Blk w6 g 178 #[.slice A n c, .int .i64 (a3 : Int), .bool b3] := Blk.grown (by repeat (first | with_reducible exact hk | with_reducible (apply Blk.set_) | with_reducible (apply Blk.far; case hp => (simp <;> omega)) | with_reducible (apply Blk.alloc) | with_reducible (apply Blk.drew))) hg_ (fun e_ => ne_o1_hk e_.symm); replace hB : BelowX w.heap.size g w w6 := BelowX.trans (by have hs_ := hB.size; repeat (first | with_reducible exact hB | with_reducible exact BelowX.refl _ _ _ | with_reducible (refine BelowX.setO ?_ (by first | (exact Or.inl rfl) | (exact Or.inr (by simp <;> omega))) _) | with_reducible (refine BelowX.al ?_ (by first | exact hs_ | (simp <;> omega)) _) | with_reducible (refine BelowX.drew ?_))) (BelowX.of b_ g); replace hk := nw_hk; clear nw_hk; replace hI : Inn w6 w.heap.size (vs ++ [.slice A3 t c3]) (LL ++ [li]) := hI.map (fun v n xs ho => own_growNe ho (own_alloc_ o1 (.cells #[.slice A3 t c3] 62)) (by decide) hg_); clear o1; clear hg_ b_)
          go_roundw
          case rel => exact ⟨j + 1, A6, c6, LL ++ [li], _, a3, b3, by omega, by go_num, rfl, o6, hI, by simp [HL.out], HST.out, hk, hB⟩
          case measure => simp [intOf]; omega
    · obtain rfl : j = m := by omega
      go_wp2_with fail
      go_ret
      exact ⟨A1, j, c1, LL, a1, b1, rfl, Inn.rdC hI o1 HL.out, hm, by have h := HS.out; exact csS_end h, hk, hB⟩

end Go.Proofs.Ytldaijkcmnnjpaa
