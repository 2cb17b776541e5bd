/- The contract of the reference's Twin. -/
import Derived.Test.YtponceakelimeaaMem7
import Derived.Test.YtponceakelimeaaRet3
namespace Go.Proofs.Ytponceakelimeaa
open Go.RowKit Wire
set_option linter.unusedVariables false

theorem slRG : IsSl Try.prog 26 25 (.agg #[.int .u64 0, .slice none 0 0]) 2 32 := ⟨Try.underlying26, by kernel_rfl, rfl, by omega, by omega⟩
/-- Regions that a call has made: the row, and the bytes of each. -/
def OwR (w : World) (B : Nat) (A : Option Addr) (n c : Nat) (L : List (Nat × List UInt8)) : Prop :=
  L.length = n ∧ ∃ vs : List (List Value), vs.length = n ∧ (∀ u ∈ vs, u.length = 2 ∧ ∀ v ∈ u, v.oneCell' = true) ∧ w.ownsRow B 25 2 (.slice A n c) n vs.flatten ∧
    ∀ (k : Nat) (p : Nat × List UInt8), L[k]? = some p → ∃ Ai ci, vs[k]? = some [.int .u64 (p.1 : Int), .slice Ai p.2.length ci] ∧ w.ownsRow B 5 1 (.slice Ai p.2.length ci) p.2.length (p.2.map b8) ∧ p.1 < 18446744073709551616

theorem OwR.rd {w : World} {B n c : Nat} {A : Option Addr} {L : List (Nat × List UInt8)} (h : OwR w B A n c L) : RdR w A n L := by
  obtain ⟨h1, vs, h2, h3, h4, h5⟩ := h
  refine ⟨h1, vs, h2, fun u hu => (h3 u hu).1, Reads.of_own h4, fun k p hp => ?_⟩
  obtain ⟨Ai, ci, g1, g2, g3⟩ := h5 k p hp
  exact ⟨Ai, ci, g1, own_cap g2, own_rd g2, g3⟩

theorem OwR.call {w w' : World} {B n c : Nat} {A : Option Addr} {L : List (Nat × List UInt8)} (h : OwR w B A n c L) (b : Below w.heap.size w w') : OwR w' B A n c L := by
  obtain ⟨h1, vs, h2, h3, h4, h5⟩ := h
  refine ⟨h1, vs, h2, h3, own_call h4 b, fun k p hp => ?_⟩
  obtain ⟨Ai, ci, g1, g2, g3⟩ := h5 k p hp
  exact ⟨Ai, ci, g1, own_call g2 b, g3⟩
theorem OwR.nil (w : World) (B : Nat) : OwR w B none 0 0 [] :=
  ⟨rfl, [], rfl, by simp, World.ownsRow_nil _ _ _ _, fun k p hp => by simp at hp⟩
/-- A row of another type is not the block that grows. -/
theorem own_grow {w w' : World} {base base' : Nat} {e e' : TypeId} {size size' n n' : Nat} {v v' : Value} {xs xs' : List Value} (h : w.ownsRow base e size v n xs) (h' : w.ownsRow base' e' size' v' n' xs') (hne : e ≠ e') (hg : w.grownBy w' v'.ownBlock) : w'.ownsRow base e size v n xs := by
  refine h.kept hg ?_
  rcases h.2 with ⟨rfl, _⟩ | ⟨g, cap, cur, rfl, _, hh, _⟩
  · exact .inl rfl
  · refine .inr fun he => ?_
    rcases h'.2 with ⟨rfl, _⟩ | ⟨g', cap', cur', rfl, _, hh', _⟩
    · simp [Value.ownBlock] at he
    · simp [Value.ownBlock] at he
      subst he
      rw [hh] at hh'
      injection hh' with hh'
      injection hh' with _ ht
      exact hne ht
theorem reads_two (w : World) (u v : Value) (e : TypeId) : Reads (w.alloc (.cells #[u, v] e)) (w.alloc (.cells #[u, v] e)).heap.size 2 (some ⟨w.heap.size, 0, none⟩) 1 [u, v] := by
  refine ⟨rfl, fun _ => ⟨_, rfl, by simp, fun j x hx => ?_⟩⟩
  have hadd : (⟨w.heap.size, 0, none⟩ : Addr).add j = ⟨w.heap.size, j, none⟩ := by unfold Addr.add; split <;> simp_all
  rw [hadd, (Blk.new w e #[u, v]).cell j]
  simpa using hx
theorem OwR.snoc {w w' : World} {B n c : Nat} {A : Option Addr} {L : List (Nat × List UInt8)} {p : Nat × List UInt8} {Ai : Option Addr} {ci c' : Nat} {A' : Option Addr} {vs : List (List Value)}
    (h1 : L.length = n) (h2 : vs.length = n) (h3 : ∀ u ∈ vs, u.length = 2 ∧ ∀ v ∈ u, v.oneCell' = true) (h4 : w.ownsRow B 25 2 (.slice A n c) n vs.flatten)
    (h5 : ∀ (k : Nat) (p : Nat × List UInt8), L[k]? = some p → ∃ Ai ci, vs[k]? = some [.int .u64 (p.1 : Int), .slice Ai p.2.length ci] ∧ w.ownsRow B 5 1 (.slice Ai p.2.length ci) p.2.length (p.2.map b8) ∧ p.1 < 18446744073709551616)
    (ho : w.ownsRow B 5 1 (.slice Ai p.2.length ci) p.2.length (p.2.map b8)) (hp : p.1 < 18446744073709551616)
    (hn : w'.ownsRow B 25 2 (.slice A' (n + 1) c') (n + 1) (vs.flatten ++ [.int .u64 (p.1 : Int), .slice Ai p.2.length ci])) (hg : w.grownBy w' (Value.slice A n c).ownBlock) : OwR w' B A' (n + 1) c' (L ++ [p]) := by
  have hne : 5 ≠ 25 := by decide
  refine ⟨by simp [h1], vs ++ [[.int .u64 (p.1 : Int), .slice Ai p.2.length ci]], by simp [h2], fun u hu => ?_, by simpa using hn, fun k q hq => ?_⟩
  · rcases List.mem_append.1 hu with h | h
    · exact h3 u h
    · simp at h; subst h; simp [Value.oneCell']
  · by_cases hk : k < n
    · rw [List.getElem?_append_left (by omega)] at hq ⊢
      obtain ⟨Aj, cj, g1, g2, g3⟩ := h5 k q hq
      exact ⟨Aj, cj, g1, own_grow g2 h4 hne hg, g3⟩
    · rw [List.getElem?_append_right (by omega)] at hq
      have hk0 : k - L.length = 0 := by
        rcases Nat.eq_zero_or_pos (k - L.length) with h | h
        · exact h
        · rw [List.getElem?_eq_none (by simp; omega)] at hq; cases hq
      rw [hk0] at hq
      simp at hq
      subst hq
      obtain rfl : k = n := by omega
      exact ⟨Ai, ci, by rw [List.getElem?_append_right (by omega), h2]; simp, own_grow ho h4 hne hg, hp⟩

set_option maxRecDepth 100000 in
set_option maxHeartbeats 3200000 in
theorem twin26_any (A : Option Addr) (n c : Nat) (L : List (Nat × List UInt8)) (w : World) (hr : RdR w A n L) (hn : n ≤ 1000000) (hbd : ∀ p ∈ L, p.2.length ≤ 1000000) :
    Calls Try.prog 11 #[.slice A n c] w fun e w' => ∃ A' c', e = .returned (.slice A' n c') ∧ OwR w' w.heap.size A' n c' L ∧ Below w.heap.size w w' := by
  have HL := Lib.hid hr.1
  go_enter Try.func11, Try.ntmps11
  go_wp2_with fail
  go_loopw [3, 4] (fun v i wr => ∃ (j : Nat) (A1 : Option Addr) (c1 : Nat), j ≤ n ∧ i = .int .i64 (j : Int) ∧ v = .slice A1 j c1 ∧ OwR wr w.heap.size A1 j c1 (L.take j) ∧ Below w.heap.size w wr) (fun _ i _ => n - (intOf i).toNat)
  case atStart => exact ⟨0, none, 0, by omega, rfl, rfl, OwR.nil _ _, Below.refl _ _⟩
  case round =>
    obtain ⟨j, A1, c1', hj, rfl, rfl, hw, hB⟩ := hrel
    by_cases hlt : j < n
    · obtain ⟨ad, b, l, Ai, ci, hA, hab, hz, c0, c1, hci, rl, hb⟩ := hr.at_ hlt
      have hl4 : l.length ≤ 1000000 := hbd (b, l) (List.mem_of_getElem? hz)
      have HT := Lib.hid (show L.take (j + 1) = L.take j ++ [(b, l)] from by rw [List.take_add_one, hz]; rfl)
      have HA := Lib.hid hA
      clear hz
      subst hA
      replace c0 := (hB.cell (by rw [block_of_add]; exact hab)).trans c0
      replace c1 := (hB.cell (by rw [block_of_add]; exact hab)).trans c1
      have c2 : wr.cell? { block := (ad.add (j * 2)).block, off := (ad.add (j * 2)).off + 1 } = some (.slice Ai l.length ci) := by
        have e : ({ block := (ad.add (j * 2)).block, off := (ad.add (j * 2)).off + 1 } : Addr) = ad.add (j * 2 + 1) := by simp [Addr.add]; split <;> simp <;> omega
        rw [e]; exact c1

      have R := rl.mv hB
      go_wp2_with fail
      refine nop_wp (exb_start w.heap.size (by kernel_rfl) calm_nop (fun hQ => ?_))
      replace hw := hw.call (Ext.refl wr).draw
      replace hB := hB.drew
      replace R : Rb wr.drew Ai l.length l := R
      replace c0 : wr.drew.cell? _ = _ := c0
      replace c2 : wr.drew.cell? _ = _ := c2
      generalize wr.drew = x at *
      have hx := hB.size
      have X0 : ∀ W, ExB w.heap.size x W → W.cell? (ad.add (j * 2)) = some (.int .u64 (b : Int)) := fun W h => (h.cell (by rw [block_of_add]; exact hab)).trans c0
      have X1 : ∀ W, ExB w.heap.size x W → W.cell? { block := (ad.add (j * 2)).block, off := (ad.add (j * 2)).off + 1 } = some (.slice Ai l.length ci) := fun W h => (h.cell (by show (ad.add (j * 2)).block < _; rw [block_of_add]; exact hab)).trans c2
      clear c0 c1 c2
      refine ext_take (i := 0) (oi := ?oia0) (v := ?va0) ?hia0 (by kernel_rfl) (by kernel_rfl) (by kernel_rfl) hQ ?hwa0 ?hya0 ?resta0
      case hia0 => simp only [List.getElem?_toArray, List.getElem?_cons_zero]; rfl
      case hwa0 => rfl
      case hya0 => intro W hW; go_simp; with_reducible rfl
      simp only [Act.put, List.setIfInBounds_toArray, List.set_cons_zero, List.set_cons_succ]
      refine ext_take (i := 1) (oi := ?oia1) (v := ?va1) ?hia1 (by kernel_rfl) (by kernel_rfl) (by kernel_rfl) hQ ?hwa1 ?hya1 ?resta1
      case hia1 => simp only [List.getElem?_toArray, List.getElem?_cons_zero, List.getElem?_cons_succ]; rfl
      case hwa1 => rfl
      case hya1 => intro W hW; go_simp; with_reducible rfl
      simp only [Act.put, List.setIfInBounds_toArray, List.set_cons_zero, List.set_cons_succ]
      refine ext_take (i := 2) (oi := ?oia2) (v := ?va2) ?hia2 (by kernel_rfl) (by kernel_rfl) (by kernel_rfl) hQ ?hwa2 ?hya2 ?resta2
      case hia2 => simp only [List.getElem?_toArray, List.getElem?_cons_zero, List.getElem?_cons_succ]; rfl
      case hwa2 => rfl
      case hya2 => intro W hW; go_simp; with_reducible rfl
      simp only [Act.put, List.setIfInBounds_toArray, List.set_cons_zero, List.set_cons_succ]
      refine ext_take (i := 3) (oi := ?oia3) (v := ?va3) ?hia3 (by kernel_rfl) (by kernel_rfl) (by kernel_rfl) hQ ?hwa3 ?hya3 ?resta3
      case hia3 => simp only [List.getElem?_toArray, List.getElem?_cons_zero, List.getElem?_cons_succ]; rfl
      case hwa3 => rfl
      case hya3 => intro W hW; go_simp; with_reducible rfl
      simp only [Act.put, List.setIfInBounds_toArray, List.set_cons_zero, List.set_cons_succ]
      refine ext_take (i := 4) (oi := ?oia4) (v := ?va4) ?hia4 (by kernel_rfl) (by kernel_rfl) (by kernel_rfl) hQ ?hwa4 ?hya4 ?resta4
      case hia4 => simp only [List.getElem?_toArray, List.getElem?_cons_zero, List.getElem?_cons_succ]; rfl
      case hwa4 => rfl
      case hya4 => intro W hW; go_simp; with_reducible rfl
      simp only [Act.put, List.setIfInBounds_toArray, List.set_cons_zero, List.set_cons_succ]
      refine ext_take (i := 5) (oi := ?oia5) (v := ?va5) ?hia5 (by kernel_rfl) (by kernel_rfl) (by kernel_rfl) hQ ?hwa5 ?hya5 ?resta5
      case hia5 => simp only [List.getElem?_toArray, List.getElem?_cons_zero, List.getElem?_cons_succ]; rfl
      case hwa5 => rfl
      case hya5 => intro W hW; go_simp; with_reducible rfl
      simp only [Act.put, List.setIfInBounds_toArray, List.set_cons_zero, List.set_cons_succ]
      refine ext_take (i := 7) (oi := ?oia7) (v := ?va7) ?hia7 (by kernel_rfl) (by kernel_rfl) (by kernel_rfl) hQ ?hwa7 ?hya7 ?resta7
      case hia7 => simp only [List.getElem?_toArray, List.getElem?_cons_zero, List.getElem?_cons_succ]; rfl
      case hwa7 => rfl
      case hya7 => intro W hW; go_simp; with_reducible rfl
      simp only [Act.put, List.setIfInBounds_toArray, List.set_cons_zero, List.set_cons_succ]
      refine ext_take (i := 8) (oi := ?oia8) (v := ?va8) ?hia8 (by kernel_rfl) (by kernel_rfl) (by kernel_rfl) hQ ?hwa8 ?hya8 ?resta8
      case hia8 => simp only [List.getElem?_toArray, List.getElem?_cons_zero, List.getElem?_cons_succ]; rfl
      case hwa8 => rfl
      case hya8 => intro W hW; go_simp; with_reducible rfl
      simp only [Act.put, List.setIfInBounds_toArray, List.set_cons_zero, List.set_cons_succ]
      refine ext_take (i := 9) (oi := ?oia9) (v := ?va9) ?hia9 (by kernel_rfl) (by kernel_rfl) (by kernel_rfl) hQ ?hwa9 ?hya9 ?resta9
      case hia9 => simp only [List.getElem?_toArray, List.getElem?_cons_zero, List.getElem?_cons_succ]; rfl
      case hwa9 => rfl
      case hya9 => intro W hW; go_simp; with_reducible rfl
      simp only [Act.put, List.setIfInBounds_toArray, List.set_cons_zero, List.set_cons_succ]
      refine ext_take (i := 10) (oi := ?oia10) (v := ?va10) ?hia10 (by kernel_rfl) (by kernel_rfl) (by kernel_rfl) hQ ?hwa10 ?hya10 ?resta10
      case hia10 => simp only [List.getElem?_toArray, List.getElem?_cons_zero, List.getElem?_cons_succ]; rfl
      case hwa10 => rfl
      case hya10 => intro W hW; go_simp; with_reducible rfl
      simp only [Act.put, List.setIfInBounds_toArray, List.set_cons_zero, List.set_cons_succ]
      refine ext_take (i := 11) (oi := ?oia11) (v := ?va11) ?hia11 (by kernel_rfl) (by kernel_rfl) (by kernel_rfl) hQ ?hwa11 ?hya11 ?resta11
      case hia11 => simp only [List.getElem?_toArray, List.getElem?_cons_zero, List.getElem?_cons_succ]; rfl
      case hwa11 => rfl
      case hya11 => intro W hW; go_simp; with_reducible rfl
      simp only [Act.put, List.setIfInBounds_toArray, List.set_cons_zero, List.set_cons_succ]
      refine exb_step (i := 6) (oi := ?oia6) (by kernel_rfl) ?hia6 ?hwa6 (fun K hK => ?_)
      case hia6 => simp only [List.getElem?_toArray, List.getElem?_cons_zero, List.getElem?_cons_succ]; rfl
      case hwa6 => rfl
      go_simp
      have b5 : Below x.heap.size x (x.alloc (.cells #[] 5)) := Ext.al x (.cells #[] 5); have o5 := own_empty x (Nat.le_refl _) 5 1; have R5 := R.mv b5; refine hK _ _ _ (Nat.le_refl _) (Below.mono b5 hx) ?_; have hx5 := b5.size; generalize hg5 : x.heap.size = g5 at *; generalize hw5 : x.alloc (.cells #[] 5) = w5 at *; have HG5 := Lib.hid hg5; have HW5 := Lib.hid hw5; clear hg5 hw5
      try simp only [Act.put, List.setIfInBounds_toArray, List.set_cons_zero, List.set_cons_succ]
      refine exb_step (i := 12) (oi := ?oia12) (by kernel_rfl) ?hia12 ?hwa12 (fun K hK => ?_)
      case hia12 => simp only [List.getElem?_toArray, List.getElem?_cons_zero, List.getElem?_cons_succ]; rfl
      case hwa12 => rfl
      (refine wp_app8 (l := []) (.tmp 17) (.tmp 22) _ (by rfl) sl8 g5 (by rfl) o5 (by rfl) R5 l.length (by omega) (by omega) hx5 ?_; intro A6 c6 w6 o6 b6; rw [List.nil_append] at o6; refine hK _ _ _ (Nat.le_refl _) (b6.mono hx) ?_; have b56 := b5.trans b6; have hB6 := hB.trans (b56.mono hx); have hw6 := hw.call (by rw [HG5.out]; exact b56); have o6 := own_low o6 hx)
      try simp only [Act.put, List.setIfInBounds_toArray, List.set_cons_zero, List.set_cons_succ]
      refine ext_take (i := 13) (oi := ?oia13) (v := ?va13) ?hia13 (by kernel_rfl) (by kernel_rfl) (by kernel_rfl) hQ ?hwa13 ?hya13 ?resta13
      case hia13 => simp only [List.getElem?_toArray, List.getElem?_cons_zero, List.getElem?_cons_succ]; rfl
      case hwa13 => rfl
      case hya13 => intro W hW; go_simp; with_reducible rfl
      simp only [Act.put, List.setIfInBounds_toArray, List.set_cons_zero, List.set_cons_succ]
      refine exb_step (i := 14) (oi := ?oia14) (by kernel_rfl) ?hia14 ?hwa14 (fun K hK => ?_)
      case hia14 => simp only [List.getElem?_toArray, List.getElem?_cons_zero, List.getElem?_cons_succ]; rfl
      case hwa14 => rfl
      go_simp
      have b7 := Ext.al w6 (.cells #[.int .u64 (b : Int), .slice A6 l.length c6] 25); have R7 := reads_two w6 (.int .u64 (b : Int)) (.slice A6 l.length c6) 25; have hw7 := hw6.call b7; have o7 := own_call o6 b7; have hB7 := hB6.trans (Below.mono b7 hB6.size); refine hK _ _ _ (Nat.le_refl _) (Below.mono b7 hB6.size) ?_; generalize w6.heap.size = g7 at *; generalize w6.alloc (.cells #[.int .u64 (b : Int), .slice A6 l.length c6] 25) = w7 at *; obtain ⟨k1, vs, k2, k3, k4, k5⟩ := hw7
      try simp only [Act.put, List.setIfInBounds_toArray, List.set_cons_zero, List.set_cons_succ]
      refine exb_step (i := 15) (oi := ?oia15) (by kernel_rfl) ?hia15 ?hwa15 (fun K hK => ?_)
      case hia15 => simp only [List.getElem?_toArray, List.getElem?_cons_zero, List.getElem?_cons_succ]; rfl
      case hwa15 => rfl
      (refine wp_app (.tmp 11) (.tmp 25) _ (by rfl) slRG w.heap.size _ j vs.flatten (by rfl) k4 _ _ 1 _ [.int .u64 (b : Int), .slice A6 l.length c6] (by rfl) R7 (by simp [Value.oneCell']) (by omega) hB7.size ?_; intro A8 c8 w8 o8 hg8 b8 hc8; have hw8 := OwR.snoc (p := (b, l)) k1 k2 k3 k4 k5 o7 hb o8 hg8; refine hK _ _ _ (Nat.le_refl _) b8 ?_; have hB8 := hB7.trans b8)
      try simp only [Act.put, List.setIfInBounds_toArray, List.set_cons_zero, List.set_cons_succ]
      refine ext_take (i := 16) (oi := ?oia16) (v := ?va16) ?hia16 (by kernel_rfl) (by kernel_rfl) (by kernel_rfl) hQ ?hwa16 ?hya16 ?resta16
      case hia16 => simp only [List.getElem?_toArray, List.getElem?_cons_zero, List.getElem?_cons_succ]; rfl
      case hwa16 => rfl
      case hya16 => intro W hW; go_simp; with_reducible rfl
      simp only [Act.put, List.setIfInBounds_toArray, List.set_cons_zero, List.set_cons_succ]
      refine wpAnyH_done (by kernel_rfl) ?_ _

      simp only [NoP]
      go_wp2_with fail
      go_roundw
      case rel => exact ⟨j + 1, A8, c8, by omega, by go_num, rfl, by rw [HT.out]; exact hw8, hB8⟩
      case measure => simp [intOf]; omega
    · have hjn : j = n := by omega
      subst hjn
      rw [List.take_of_length_le (by rw [HL.out]; omega)] at hw
      go_wp2_with fail
      go_ret
      exact ⟨A1, c1', rfl, hw, hB⟩

end Go.Proofs.Ytponceakelimeaa
