/- The contract of the reference's Twin. -/
import Derived.Test.YteaaiacgebikpaaSec3
import Derived.Test.YteaaiacgebikpaaRet3
namespace Go.Proofs.Yteaaiacgebikpaa
open Go.RowKit Wire
set_option linter.unusedVariables false

theorem slSC : IsSl Try.prog 24 32 (.agg #[.int .u8 0, .slice none 0 0]) 2 32 := ⟨Try.underlying24, by kernel_rfl, rfl, by omega, by omega⟩
/-- Regions that a call has made: the row, and the bytes of each. -/
def OwR (w : World) (B : Nat) (A : Option Addr) (n c : Nat) (L : List (Nat × List UInt8)) : Prop :=
  L.length = n ∧ ∃ vs : List (List Value), vs.length = n ∧ (∀ u ∈ vs, u.length = 2 ∧ ∀ v ∈ u, v.oneCell' = true) ∧ w.ownsRow B 32 2 (.slice A n c) n vs.flatten ∧
    ∀ (k : Nat) (p : Nat × List UInt8), L[k]? = some p → ∃ Ai ci, vs[k]? = some [.int .u8 (p.1 : Int), .slice Ai p.2.length ci] ∧ w.ownsRow B 5 1 (.slice Ai p.2.length ci) p.2.length (p.2.map b8) ∧ p.1 < 256

theorem OwR.rd {w : World} {B n c : Nat} {A : Option Addr} {L : List (Nat × List UInt8)} (h : OwR w B A n c L) : RdS w A n L := by
  obtain ⟨h1, vs, h2, h3, h4, h5⟩ := h
  refine ⟨h1, vs, h2, fun u hu => (h3 u hu).1, Reads.of_own h4, fun k p hp => ?_⟩
  obtain ⟨Ai, ci, g1, g2, g3⟩ := h5 k p hp
  exact ⟨Ai, ci, g1, own_cap g2, own_rd g2, g3⟩

theorem OwR.call {w w' : World} {B n c : Nat} {A : Option Addr} {L : List (Nat × List UInt8)} (h : OwR w B A n c L) (b : Below w.heap.size w w') : OwR w' B A n c L := by
  obtain ⟨h1, vs, h2, h3, h4, h5⟩ := h
  refine ⟨h1, vs, h2, h3, own_call h4 b, fun k p hp => ?_⟩
  obtain ⟨Ai, ci, g1, g2, g3⟩ := h5 k p hp
  exact ⟨Ai, ci, g1, own_call g2 b, g3⟩
theorem OwR.nil (w : World) (B : Nat) : OwR w B none 0 0 [] :=
  ⟨rfl, [], rfl, by simp, World.ownsRow_nil _ _ _ _, fun k p hp => by simp at hp⟩
/-- A row of another type is not the block that grows. -/
theorem own_grow {w w' : World} {base base' : Nat} {e e' : TypeId} {size size' n n' : Nat} {v v' : Value} {xs xs' : List Value} (h : w.ownsRow base e size v n xs) (h' : w.ownsRow base' e' size' v' n' xs') (hne : e ≠ e') (hg : w.grownBy w' v'.ownBlock) : w'.ownsRow base e size v n xs := by
  refine h.kept hg ?_
  rcases h.2 with ⟨rfl, _⟩ | ⟨g, cap, cur, rfl, _, hh, _⟩
  · exact .inl rfl
  · refine .inr fun he => ?_
    rcases h'.2 with ⟨rfl, _⟩ | ⟨g', cap', cur', rfl, _, hh', _⟩
    · simp [Value.ownBlock] at he
    · simp [Value.ownBlock] at he
      subst he
      rw [hh] at hh'
      injection hh' with hh'
      injection hh' with _ ht
      exact hne ht
theorem reads_two (w : World) (u v : Value) (e : TypeId) : Reads (w.alloc (.cells #[u, v] e)) (w.alloc (.cells #[u, v] e)).heap.size 2 (some ⟨w.heap.size, 0, none⟩) 1 [u, v] := by
  refine ⟨rfl, fun _ => ⟨_, rfl, by simp, fun j x hx => ?_⟩⟩
  have hadd : (⟨w.heap.size, 0, none⟩ : Addr).add j = ⟨w.heap.size, j, none⟩ := by unfold Addr.add; split <;> simp_all
  rw [hadd, (Blk.new w e #[u, v]).cell j]
  simpa using hx
theorem OwR.snoc {w w' : World} {B n c : Nat} {A : Option Addr} {L : List (Nat × List UInt8)} {p : Nat × List UInt8} {Ai : Option Addr} {ci c' : Nat} {A' : Option Addr} {vs : List (List Value)}
    (h1 : L.length = n) (h2 : vs.length = n) (h3 : ∀ u ∈ vs, u.length = 2 ∧ ∀ v ∈ u, v.oneCell' = true) (h4 : w.ownsRow B 32 2 (.slice A n c) n vs.flatten)
    (h5 : ∀ (k : Nat) (p : Nat × List UInt8), L[k]? = some p → ∃ Ai ci, vs[k]? = some [.int .u8 (p.1 : Int), .slice Ai p.2.length ci] ∧ w.ownsRow B 5 1 (.slice Ai p.2.length ci) p.2.length (p.2.map b8) ∧ p.1 < 256)
    (ho : w.ownsRow B 5 1 (.slice Ai p.2.length ci) p.2.length (p.2.map b8)) (hp : p.1 < 256)
    (hn : w'.ownsRow B 32 2 (.slice A' (n + 1) c') (n + 1) (vs.flatten ++ [.int .u8 (p.1 : Int), .slice Ai p.2.length ci])) (hg : w.grownBy w' (Value.slice A n c).ownBlock) : OwR w' B A' (n + 1) c' (L ++ [p]) := by
  have hne : 5 ≠ 32 := by decide
  refine ⟨by simp [h1], vs ++ [[.int .u8 (p.1 : Int), .slice Ai p.2.length ci]], by simp [h2], fun u hu => ?_, by simpa using hn, fun k q hq => ?_⟩
  · rcases List.mem_append.1 hu with h | h
    · exact h3 u h
    · simp at h; subst h; simp [Value.oneCell']
  · by_cases hk : k < n
    · rw [List.getElem?_append_left (by omega)] at hq ⊢
      obtain ⟨Aj, cj, g1, g2, g3⟩ := h5 k q hq
      exact ⟨Aj, cj, g1, own_grow g2 h4 hne hg, g3⟩
    · rw [List.getElem?_append_right (by omega)] at hq
      have hk0 : k - L.length = 0 := by
        rcases Nat.eq_zero_or_pos (k - L.length) with h | h
        · exact h
        · rw [List.getElem?_eq_none (by simp; omega)] at hq; cases hq
      rw [hk0] at hq
      simp at hq
      subst hq
      obtain rfl : k = n := by omega
      exact ⟨Ai, ci, by rw [List.getElem?_append_right (by omega), h2]; simp, own_grow ho h4 hne hg, hp⟩

set_option maxRecDepth 100000 in
set_option maxHeartbeats 3200000 in
theorem twin25_any (A : Option Addr) (n c : Nat) (L : List (Nat × List UInt8)) (w : World) (hr : RdS w A n L) (hn : n ≤ 1000000) (hbd : ∀ p ∈ L, p.2.length ≤ 1000000) :
    Calls Try.prog 17 #[.slice A n c] w fun e w' => ∃ A' c', e = .returned (.slice A' n c') ∧ OwR w' w.heap.size A' n c' L ∧ Below w.heap.size w w' := by
  have HL := Lib.hid hr.1
  go_enter Try.func17, Try.ntmps17
  go_wp2_with fail
  go_loopw [3, 4] (fun v i wr => ∃ (j : Nat) (A1 : Option Addr) (c1 : Nat), j ≤ n ∧ i = .int .i64 (j : Int) ∧ v = .slice A1 j c1 ∧ OwR wr w.heap.size A1 j c1 (L.take j) ∧ Below w.heap.size w wr) (fun _ i _ => n - (intOf i).toNat)
  case atStart => exact ⟨0, none, 0, by omega, rfl, rfl, OwR.nil _ _, Below.refl _ _⟩
  case round =>
    obtain ⟨j, A1, c1', hj, rfl, rfl, hw, hB⟩ := hrel
    by_cases hlt : j < n
    · obtain ⟨ad, b, l, Ai, ci, hA, hab, hz, c0, c1, hci, rl, hb⟩ := hr.at_ hlt
      have hl4 : l.length ≤ 1000000 := hbd (b, l) (List.mem_of_getElem? hz)
      have HT := Lib.hid (show L.take (j + 1) = L.take j ++ [(b, l)] from by rw [List.take_add_one, hz]; rfl)
      have HA := Lib.hid hA
      clear hz
      subst hA
      replace c0 := (hB.cell (by rw [block_of_add]; exact hab)).trans c0
      replace c1 := (hB.cell (by show (ad.add (j * 2)).block < _; rw [block_of_add]; exact hab)).trans c1
      have c2 := c1
      have R := rl.mv hB
      go_wp2_with fail
      refine nop_wp (exb_start w.heap.size (by kernel_rfl) calm_nop (fun hQ => ?_))
      replace hw := hw.call (Ext.refl wr).draw
      replace hB := hB.drew
      replace R : Rb wr.drew Ai l.length l := R
      replace c0 : wr.drew.cell? _ = _ := c0
      replace c2 : wr.drew.cell? _ = _ := c2
      generalize wr.drew = x at *
      have hx := hB.size
      have X0 : ∀ W, ExB w.heap.size x W → W.cell? (ad.add (j * 2)) = some (.int .u8 (b : Int)) := fun W h => (h.cell (by rw [block_of_add]; exact hab)).trans c0
      have X1 : ∀ W, ExB w.heap.size x W → W.cell? { block := (ad.add (j * 2)).block, off := (ad.add (j * 2)).off + 1 } = some (.slice Ai l.length ci) := fun W h => (h.cell (by show (ad.add (j * 2)).block < _; rw [block_of_add]; exact hab)).trans c2
      clear c0 c1 c2
      refine ext_take (i := 0) (oi := ?oia0) (v := ?va0) ?hia0 (by kernel_rfl) (by kernel_rfl) (by kernel_rfl) hQ ?hwa0 ?hya0 ?resta0
      case hia0 => simp only [List.getElem?_toArray, List.getElem?_cons_zero]; rfl
      case hwa0 => rfl
      case hya0 => intro W hW; go_simp; with_reducible rfl
      simp only [Act.put, List.setIfInBounds_toArray, List.set_cons_zero, List.set_cons_succ]
      refine ext_take (i := 1) (oi := ?oia1) (v := ?va1) ?hia1 (by kernel_rfl) (by kernel_rfl) (by kernel_rfl) hQ ?hwa1 ?hya1 ?resta1
      case hia1 => simp only [List.getElem?_toArray, List.getElem?_cons_zero, List.getElem?_cons_succ]; rfl
      case hwa1 => rfl
      case hya1 => intro W hW; go_simp; with_reducible rfl
      simp only [Act.put, List.setIfInBounds_toArray, List.set_cons_zero, List.set_cons_succ]
      refine ext_take (i := 2) (oi := ?oia2) (v := ?va2) ?hia2 (by kernel_rfl) (by kernel_rfl) (by kernel_rfl) hQ ?hwa2 ?hya2 ?resta2
      case hia2 => simp only [List.getElem?_toArray, List.getElem?_cons_zero, List.getElem?_cons_succ]; rfl
      case hwa2 => rfl
      case hya2 => intro W hW; go_simp; with_reducible rfl
      simp only [Act.put, List.setIfInBounds_toArray, List.set_cons_zero, List.set_cons_succ]
      refine ext_take (i := 3) (oi := ?oia3) (v := ?va3) ?hia3 (by kernel_rfl) (by kernel_rfl) (by kernel_rfl) hQ ?hwa3 ?hya3 ?resta3
      case hia3 => simp only [List.getElem?_toArray, List.getElem?_cons_zero, List.getElem?_cons_succ]; rfl
      case hwa3 => rfl
      case hya3 => intro W hW; go_simp; with_reducible rfl
      simp only [Act.put, List.setIfInBounds_toArray, List.set_cons_zero, List.set_cons_succ]
      refine ext_take (i := 4) (oi := ?oia4) (v := ?va4) ?hia4 (by kernel_rfl) (by kernel_rfl) (by kernel_rfl) hQ ?hwa4 ?hya4 ?resta4
      case hia4 => simp only [List.getElem?_toArray, List.getElem?_cons_zero, List.getElem?_cons_succ]; rfl
      case hwa4 => rfl
      case hya4 => intro W hW; go_simp; with_reducible rfl
      simp only [Act.put, List.setIfInBounds_toArray, List.set_cons_zero, List.set_cons_succ]
      refine ext_take (i := 5) (oi := ?oia5) (v := ?va5) ?hia5 (by kernel_rfl) (by kernel_rfl) (by kernel_rfl) hQ ?hwa5 ?hya5 ?resta5
      case hia5 => simp only [List.getElem?_toArray, List.getElem?_cons_zero, List.getElem?_cons_succ]; rfl
      case hwa5 => rfl
      case hya5 => intro W hW; go_simp; with_reducible rfl
      simp only [Act.put, List.setIfInBounds_toArray, List.set_cons_zero, List.set_cons_succ]
      refine ext_take (i := 7) (oi := ?oia7) (v := ?va7) ?hia7 (by kernel_rfl) (by kernel_rfl) (by kernel_rfl) hQ ?hwa7 ?hya7 ?resta7
      case hia7 => simp only [List.getElem?_toArray, List.getElem?_cons_zero, List.getElem?_cons_succ]; rfl
      case hwa7 => rfl
      case hya7 => intro W hW; go_simp; with_reducible rfl
      simp only [Act.put, List.setIfInBounds_toArray, List.set_cons_zero, List.set_cons_succ]
      refine ext_take (i := 8) (oi := ?oia8) (v := ?va8) ?hia8 (by kernel_rfl) (by kernel_rfl) (by kernel_rfl) hQ ?hwa8 ?hya8 ?resta8
      case hia8 => simp only [List.getElem?_toArray, List.getElem?_cons_zero, List.getElem?_cons_succ]; rfl
      case hwa8 => rfl
      case hya8 => intro W hW; go_simp; with_reducible rfl
      simp only [Act.put, List.setIfInBounds_toArray, List.set_cons_zero, List.set_cons_succ]
      refine ext_take (i := 9) (oi := ?oia9) (v := ?va9) ?hia9 (by kernel_rfl) (by kernel_rfl) (by kernel_rfl) hQ ?hwa9 ?hya9 ?resta9
      case hia9 => simp only [List.getElem?_toArray, List.getElem?_cons_zero, List.getElem?_cons_succ]; rfl
      case hwa9 => rfl
      case hya9 => intro W hW; go_simp; with_reducible rfl
      simp only [Act.put, List.setIfInBounds_toArray, List.set_cons_zero, List.set_cons_succ]
      refine ext_take (i := 10) (oi := ?oia10) (v := ?va10) ?hia10 (by kernel_rfl) (by kernel_rfl) (by kernel_rfl) hQ ?hwa10 ?hya10 ?resta10
      case hia10 => simp only [List.getElem?_toArray, List.getElem?_cons_zero, List.getElem?_cons_succ]; rfl
      case hwa10 => rfl
      case hya10 => intro W hW; go_simp; with_reducible rfl
      simp only [Act.put, List.setIfInBounds_toArray, List.set_cons_zero, List.set_cons_succ]
      refine ext_take (i := 11) (oi := ?oia11) (v := ?va11) ?hia11 (by kernel_rfl) (by kernel_rfl) (by kernel_rfl) hQ ?hwa11 ?hya11 ?resta11
      case hia11 => simp only [List.getElem?_toArray, List.getElem?_cons_zero, List.getElem?_cons_succ]; rfl
      case hwa11 => rfl
      case hya11 => intro W hW; go_simp; with_reducible rfl
      simp only [Act.put, List.setIfInBounds_toArray, List.set_cons_zero, List.set_cons_succ]
      refine exb_step (i := 6) (oi := ?oia6) (by kernel_rfl) ?hia6 ?hwa6 (fun K hK => ?_)
      case hia6 => simp only [List.getElem?_toArray, List.getElem?_cons_zero, List.getElem?_cons_succ]; rfl
      case hwa6 => rfl
      go_simp
      have b5 : Below x.heap.size x (x.alloc (.cells #[] 5)) := Ext.al x (.cells #[] 5); have o5 := own_empty x (Nat.le_refl _) 5 1; have R5 := R.mv b5; refine hK _ _ _ (Nat.le_refl _) (Below.mono b5 hx) ?_; have hx5 := b5.size; generalize hg5 : x.heap.size = g5 at *; generalize hw5 : x.alloc (.cells #[] 5) = w5 at *; have HG5 := Lib.hid hg5; have HW5 := Lib.hid hw5; clear hg5 hw5
      try simp only [Act.put, List.setIfInBounds_toArray, List.set_cons_zero, List.set_cons_succ]
      refine exb_step (i := 12) (oi := ?oia12) (by kernel_rfl) ?hia12 ?hwa12 (fun K hK => ?_)
      case hia12 => simp only [List.getElem?_toArray, List.getElem?_cons_zero, List.getElem?_cons_succ]; rfl
      case hwa12 => rfl
      (refine wp_app8 (l := []) (.tmp 17) (.tmp 22) _ (by rfl) sl8 g5 (by rfl) o5 (by rfl) R5 l.length (by omega) (by omega) hx5 ?_; intro A6 c6 w6 o6 b6; rw [List.nil_append] at o6; refine hK _ _ _ (Nat.le_refl _) (b6.mono hx) ?_; have b56 := b5.trans b6; have hB6 := hB.trans (b56.mono hx); have hw6 := hw.call (by rw [HG5.out]; exact b56); have o6 := own_low o6 hx)
      try simp only [Act.put, List.setIfInBounds_toArray, List.set_cons_zero, List.set_cons_succ]
      refine ext_take (i := 13) (oi := ?oia13) (v := ?va13) ?hia13 (by kernel_rfl) (by kernel_rfl) (by kernel_rfl) hQ ?hwa13 ?hya13 ?resta13
      case hia13 => simp only [List.getElem?_toArray, List.getElem?_cons_zero, List.getElem?_cons_succ]; rfl
      case hwa13 => rfl
      case hya13 => intro W hW; go_simp; with_reducible rfl
      simp only [Act.put, List.setIfInBounds_toArray, List.set_cons_zero, List.set_cons_succ]
      refine exb_step (i := 14) (oi := ?oia14) (by kernel_rfl) ?hia14 ?hwa14 (fun K hK => ?_)
      case hia14 => simp only [List.getElem?_toArray, List.getElem?_cons_zero, List.getElem?_cons_succ]; rfl
      case hwa14 => rfl
      go_simp
      have b7 := Ext.al w6 (.cells #[.int .u8 (b : Int), .slice A6 l.length c6] 32); have R7 := reads_two w6 (.int .u8 (b : Int)) (.slice A6 l.length c6) 32; have hw7 := hw6.call b7; have o7 := own_call o6 b7; have hB7 := hB6.trans (Below.mono b7 hB6.size); refine hK _ _ _ (Nat.le_refl _) (Below.mono b7 hB6.size) ?_; generalize w6.heap.size = g7 at *; generalize w6.alloc (.cells #[.int .u8 (b : Int), .slice A6 l.length c6] 32) = w7 at *; obtain ⟨k1, vs, k2, k3, k4, k5⟩ := hw7
      try simp only [Act.put, List.setIfInBounds_toArray, List.set_cons_zero, List.set_cons_succ]
      refine exb_step (i := 15) (oi := ?oia15) (by kernel_rfl) ?hia15 ?hwa15 (fun K hK => ?_)
      case hia15 => simp only [List.getElem?_toArray, List.getElem?_cons_zero, List.getElem?_cons_succ]; rfl
      case hwa15 => rfl
      (refine wp_app (.tmp 11) (.tmp 25) _ (by rfl) slSC w.heap.size _ j vs.flatten (by rfl) k4 _ _ 1 _ [.int .u8 (b : Int), .slice A6 l.length c6] (by rfl) R7 (by simp [Value.oneCell']) (by omega) hB7.size ?_; intro A8 c8 w8 o8 hg8 b8 hc8; have hw8 := OwR.snoc (p := (b, l)) k1 k2 k3 k4 k5 o7 hb o8 hg8; refine hK _ _ _ (Nat.le_refl _) b8 ?_; have hB8 := hB7.trans b8)
      try simp only [Act.put, List.setIfInBounds_toArray, List.set_cons_zero, List.set_cons_succ]
      refine ext_take (i := 16) (oi := ?oia16) (v := ?va16) ?hia16 (by kernel_rfl) (by kernel_rfl) (by kernel_rfl) hQ ?hwa16 ?hya16 ?resta16
      case hia16 => simp only [List.getElem?_toArray, List.getElem?_cons_zero, List.getElem?_cons_succ]; rfl
      case hwa16 => rfl
      case hya16 => intro W hW; go_simp; with_reducible rfl
      simp only [Act.put, List.setIfInBounds_toArray, List.set_cons_zero, List.set_cons_succ]
      refine wpAnyH_done (by kernel_rfl) ?_ _

      simp only [NoP]
      go_wp2_with fail
      go_roundw
      case rel => exact ⟨j + 1, A8, c8, by omega, by go_num, rfl, by rw [HT.out]; exact hw8, hB8⟩
      case measure => simp [intOf]; omega
    · have hjn : j = n := by omega
      subst hjn
      rw [List.take_of_length_le (by rw [HL.out]; omega)] at hw
      go_wp2_with fail
      go_ret
      exact ⟨A1, c1', rfl, hw, hB⟩

theorem upto_eq {α : Type} {l m : List α} {j : Nat} {a b : α} (h1 : l[j]? = some a) (h2 : m[j]? = some b) (h : l.take j = m.take j) (e : a = b) : l.take (j + 1) = m.take (j + 1) := by
  rw [List.take_add_one, List.take_add_one, h1, h2, h, e]
theorem at_ne {α : Type} {l m : List α} {j : Nat} {a b : α} (h1 : l[j]? = some a) (h2 : m[j]? = some b) (e : a ≠ b) : l ≠ m := by
  rintro rfl
  rw [h1] at h2
  injection h2 with h2
  exact e h2
theorem str_ne {l m : List UInt8} (h : ¬ l = m) : ((⟨l.toArray⟩ : ByteArray).toList == (⟨m.toArray⟩ : ByteArray).toList) = false := by
  rw [beq_eq_false_iff_ne, ByteArray.toList_eq, ByteArray.toList_eq]
  simpa using h

set_option maxRecDepth 100000 in
set_option maxHeartbeats 6400000 in
theorem same25_any (A : Option Addr) (n c : Nat) (L : List (Nat × List UInt8)) (A2 : Option Addr) (n2 c2 : Nat) (L2 : List (Nat × List UInt8)) (w : World) (hr : RdS w A n L) (hs : RdS w A2 n2 L2) (hn : n ≤ 1000000) :
    Calls Try.prog 12 #[.slice A n c, .slice A2 n2 c2] w fun e w' => e = .returned (.bool (decide (L = L2))) ∧ Below w.heap.size w w' := by
  have HL := Lib.hid (And.intro hr.1 hs.1)
  go_enter Try.func12, Try.ntmps12
  by_cases hne : n = n2
  rotate_left
  · have d0 : ((n : Int) != (n2 : Int)) = true := by rw [bne_iff_ne]; omega
    have HE := Lib.hid (show decide (L = L2) = false from by
      rw [decide_eq_false_iff_not]
      intro e
      have h := congrArg List.length e
      rw [HL.out.1, HL.out.2] at h
      exact hne h)
    clear hne
    go_wp2_with fail
    go_ret
    exact ⟨by rw [HE.out]; rfl, Below.refl _ _⟩
  subst hne
  go_wp2_with fail
  go_loopw [5] (fun i wr => ∃ j : Nat, j ≤ n ∧ i = .int .i64 (j : Int) ∧ L.take j = L2.take j ∧ Below w.heap.size w wr) (fun i _ => n - (intOf i).toNat)
  case atStart => exact ⟨0, by omega, rfl, rfl, Below.refl _ _⟩
  case round =>
    obtain ⟨j, hj, rfl, ht, hB⟩ := hrel
    have HT := Lib.hid ht
    clear ht
    by_cases hlt : j < n
    · obtain ⟨ad, b, l, Ai, ci, hA, hab, hz, c0, c1, hci, hrl, hb⟩ := (hr.mv hB).at_ hlt
      obtain ⟨ad2, b2, m, Aj, cj, hA2, hbb, hy, d0, d1, hcj, hrm, hb2⟩ := (hs.mv hB).at_ hlt
      have HZ := Lib.hid (And.intro hz hy)
      clear hz hy
      subst hA hA2
      by_cases hne : b = b2
      rotate_left
      · have HE := Lib.hid (show decide (L = L2) = false from by
          rw [decide_eq_false_iff_not]
          exact at_ne HZ.out.1 HZ.out.2 (fun e => hne (congrArg Prod.fst e)))
        have e0 : ((b : Int) != (b2 : Int)) = true := by rw [bne_iff_ne]; omega
        have e1 : ((b : Int) == (b2 : Int)) = false := by rw [beq_eq_false_iff_ne]; omega
        go_wp2_with fail
        refine nop_wp (ext_start (by kernel_rfl) calm_nop (fun hQ => ?_))
        replace hB := hB.drew
        replace c0 : wr.drew.cell? _ = _ := c0
        replace c1 : wr.drew.cell? _ = _ := c1
        replace d0 : wr.drew.cell? _ = _ := d0
        replace d1 : wr.drew.cell? _ = _ := d1
        replace hab : ad.block < wr.drew.heap.size := hab
        replace hbb : ad2.block < wr.drew.heap.size := hbb
        replace hrl : Rb wr.drew Ai l.length l := hrl
        replace hrm : Rb wr.drew Aj m.length m := hrm
        generalize wr.drew = x at *
        have X0 : ∀ W, Ext x W → W.cell? (ad.add (j * 2)) = some (.int .u8 (b : Int)) := fun W h => (Below.cell h (by rw [block_of_add]; exact hab)).trans c0
        have Y0 : ∀ W, Ext x W → W.cell? (ad2.add (j * 2)) = some (.int .u8 (b2 : Int)) := fun W h => (Below.cell h (by rw [block_of_add]; exact hbb)).trans d0
        have X1 : ∀ W, Ext x W → W.cell? { block := (ad.add (j * 2)).block, off := (ad.add (j * 2)).off + 1 } = some (.slice Ai l.length ci) := fun W h => (Below.cell h (by show (ad.add (j * 2)).block < _; rw [block_of_add]; exact hab)).trans c1
        have Y1 : ∀ W, Ext x W → W.cell? { block := (ad2.add (j * 2)).block, off := (ad2.add (j * 2)).off + 1 } = some (.slice Aj m.length cj) := fun W h => (Below.cell h (by show (ad2.add (j * 2)).block < _; rw [block_of_add]; exact hbb)).trans d1
        have Z0 : ∀ W, Ext x W → (convert 22 9 (.slice Ai l.length ci)).run Try.prog W = .ok (.string ⟨l.toArray⟩) W := fun W h => conv_to_str _ _ _ Try.underlying22 Try.underlying5 Try.underlying9 ci (hrl.mv h)
        have Z1 : ∀ W, Ext x W → (convert 22 9 (.slice Aj m.length cj)).run Try.prog W = .ok (.string ⟨m.toArray⟩) W := fun W h => conv_to_str _ _ _ Try.underlying22 Try.underlying5 Try.underlying9 cj (hrm.mv h)
        refine ext_take (i := 0) (oi := ?oia0) (v := ?va0) ?hia0 (by kernel_rfl) (by kernel_rfl) (by kernel_rfl) hQ ?hwa0 ?hya0 ?resta0
        case hia0 => simp only [List.getElem?_toArray, List.getElem?_cons_zero]; rfl
        case hwa0 => rfl
        case hya0 => intro W hW; go_simp; with_reducible rfl
        simp only [Act.put, List.setIfInBounds_toArray, List.set_cons_zero, List.set_cons_succ]
        refine ext_take (i := 1) (oi := ?oia1) (v := ?va1) ?hia1 (by kernel_rfl) (by kernel_rfl) (by kernel_rfl) hQ ?hwa1 ?hya1 ?resta1
        case hia1 => simp only [List.getElem?_toArray, List.getElem?_cons_zero, List.getElem?_cons_succ]; rfl
        case hwa1 => rfl
        case hya1 => intro W hW; go_simp; with_reducible rfl
        simp only [Act.put, List.setIfInBounds_toArray, List.set_cons_zero, List.set_cons_succ]
        refine ext_take (i := 2) (oi := ?oia2) (v := ?va2) ?hia2 (by kernel_rfl) (by kernel_rfl) (by kernel_rfl) hQ ?hwa2 ?hya2 ?resta2
        case hia2 => simp only [List.getElem?_toArray, List.getElem?_cons_zero, List.getElem?_cons_succ]; rfl
        case hwa2 => rfl
        case hya2 => intro W hW; go_simp; with_reducible rfl
        simp only [Act.put, List.setIfInBounds_toArray, List.set_cons_zero, List.set_cons_succ]
        refine ext_take (i := 3) (oi := ?oia3) (v := ?va3) ?hia3 (by kernel_rfl) (by kernel_rfl) (by kernel_rfl) hQ ?hwa3 ?hya3 ?resta3
        case hia3 => simp only [List.getElem?_toArray, List.getElem?_cons_zero, List.getElem?_cons_succ]; rfl
        case hwa3 => rfl
        case hya3 => intro W hW; go_simp; with_reducible rfl
        simp only [Act.put, List.setIfInBounds_toArray, List.set_cons_zero, List.set_cons_succ]
        refine ext_take (i := 4) (oi := ?oia4) (v := ?va4) ?hia4 (by kernel_rfl) (by kernel_rfl) (by kernel_rfl) hQ ?hwa4 ?hya4 ?resta4
        case hia4 => simp only [List.getElem?_toArray, List.getElem?_cons_zero, List.getElem?_cons_succ]; rfl
        case hwa4 => rfl
        case hya4 => intro W hW; go_simp; with_reducible rfl
        simp only [Act.put, List.setIfInBounds_toArray, List.set_cons_zero, List.set_cons_succ]
        refine ext_take (i := 5) (oi := ?oia5) (v := ?va5) ?hia5 (by kernel_rfl) (by kernel_rfl) (by kernel_rfl) hQ ?hwa5 ?hya5 ?resta5
        case hia5 => simp only [List.getElem?_toArray, List.getElem?_cons_zero, List.getElem?_cons_succ]; rfl
        case hwa5 => rfl
        case hya5 => intro W hW; go_simp; with_reducible rfl
        simp only [Act.put, List.setIfInBounds_toArray, List.set_cons_zero, List.set_cons_succ]
        refine ext_take (i := 6) (oi := ?oia6) (v := ?va6) ?hia6 (by kernel_rfl) (by kernel_rfl) (by kernel_rfl) hQ ?hwa6 ?hya6 ?resta6
        case hia6 => simp only [List.getElem?_toArray, List.getElem?_cons_zero, List.getElem?_cons_succ]; rfl
        case hwa6 => rfl
        case hya6 => intro W hW; go_simp; with_reducible rfl
        simp only [Act.put, List.setIfInBounds_toArray, List.set_cons_zero, List.set_cons_succ]
        refine ext_take (i := 7) (oi := ?oia7) (v := ?va7) ?hia7 (by kernel_rfl) (by kernel_rfl) (by kernel_rfl) hQ ?hwa7 ?hya7 ?resta7
        case hia7 => simp only [List.getElem?_toArray, List.getElem?_cons_zero, List.getElem?_cons_succ]; rfl
        case hwa7 => rfl
        case hya7 => intro W hW; go_simp; with_reducible rfl
        simp only [Act.put, List.setIfInBounds_toArray, List.set_cons_zero, List.set_cons_succ]
        refine ext_take (i := 8) (oi := ?oia8) (v := ?va8) ?hia8 (by kernel_rfl) (by kernel_rfl) (by kernel_rfl) hQ ?hwa8 ?hya8 ?resta8
        case hia8 => simp only [List.getElem?_toArray, List.getElem?_cons_zero, List.getElem?_cons_succ]; rfl
        case hwa8 => rfl
        case hya8 => intro W hW; go_simp; with_reducible rfl
        simp only [Act.put, List.setIfInBounds_toArray, List.set_cons_zero, List.set_cons_succ]
        refine ext_take (i := 9) (oi := ?oia9) (v := ?va9) ?hia9 (by kernel_rfl) (by kernel_rfl) (by kernel_rfl) hQ ?hwa9 ?hya9 ?resta9
        case hia9 => simp only [List.getElem?_toArray, List.getElem?_cons_zero, List.getElem?_cons_succ]; rfl
        case hwa9 => rfl
        case hya9 => intro W hW; go_simp; with_reducible rfl
        simp only [Act.put, List.setIfInBounds_toArray, List.set_cons_zero, List.set_cons_succ]
        refine ext_take (i := 10) (oi := ?oia10) (v := ?va10) ?hia10 (by kernel_rfl) (by kernel_rfl) (by kernel_rfl) hQ ?hwa10 ?hya10 ?resta10
        case hia10 => simp only [List.getElem?_toArray, List.getElem?_cons_zero, List.getElem?_cons_succ]; rfl
        case hwa10 => rfl
        case hya10 => intro W hW; go_simp; with_reducible rfl
        simp only [Act.put, List.setIfInBounds_toArray, List.set_cons_zero, List.set_cons_succ]
        refine ext_take (i := 11) (oi := ?oia11) (v := ?va11) ?hia11 (by kernel_rfl) (by kernel_rfl) (by kernel_rfl) hQ ?hwa11 ?hya11 ?resta11
        case hia11 => simp only [List.getElem?_toArray, List.getElem?_cons_zero, List.getElem?_cons_succ]; rfl
        case hwa11 => rfl
        case hya11 => intro W hW; go_simp; with_reducible rfl
        simp only [Act.put, List.setIfInBounds_toArray, List.set_cons_zero, List.set_cons_succ]
        refine ext_skip (i := 12) (oi := ?oia12) ?hia12 (by kernel_rfl) (by kernel_rfl) (by kernel_rfl) hQ ?hwa12 ?resta12
        case hia12 => simp only [List.getElem?_toArray, List.getElem?_cons_zero, List.getElem?_cons_succ]; rfl
        case hwa12 => rfl
        simp only [Act.put, List.setIfInBounds_toArray, List.set_cons_zero, List.set_cons_succ]
        refine ext_skip (i := 13) (oi := ?oia13) ?hia13 (by kernel_rfl) (by kernel_rfl) (by kernel_rfl) hQ ?hwa13 ?resta13
        case hia13 => simp only [List.getElem?_toArray, List.getElem?_cons_zero, List.getElem?_cons_succ]; rfl
        case hwa13 => rfl
        simp only [Act.put, List.setIfInBounds_toArray, List.set_cons_zero, List.set_cons_succ]
        refine ext_skip (i := 14) (oi := ?oia14) ?hia14 (by kernel_rfl) (by kernel_rfl) (by kernel_rfl) hQ ?hwa14 ?resta14
        case hia14 => simp only [List.getElem?_toArray, List.getElem?_cons_zero, List.getElem?_cons_succ]; rfl
        case hwa14 => rfl
        simp only [Act.put, List.setIfInBounds_toArray, List.set_cons_zero, List.set_cons_succ]
        refine ext_skip (i := 15) (oi := ?oia15) ?hia15 (by kernel_rfl) (by kernel_rfl) (by kernel_rfl) hQ ?hwa15 ?resta15
        case hia15 => simp only [List.getElem?_toArray, List.getElem?_cons_zero, List.getElem?_cons_succ]; rfl
        case hwa15 => rfl
        simp only [Act.put, List.setIfInBounds_toArray, List.set_cons_zero, List.set_cons_succ]
        refine ext_skip (i := 16) (oi := ?oia16) ?hia16 (by kernel_rfl) (by kernel_rfl) (by kernel_rfl) hQ ?hwa16 ?resta16
        case hia16 => simp only [List.getElem?_toArray, List.getElem?_cons_zero, List.getElem?_cons_succ]; rfl
        case hwa16 => rfl
        simp only [Act.put, List.setIfInBounds_toArray, List.set_cons_zero, List.set_cons_succ]
        refine ext_skip (i := 17) (oi := ?oia17) ?hia17 (by kernel_rfl) (by kernel_rfl) (by kernel_rfl) hQ ?hwa17 ?resta17
        case hia17 => simp only [List.getElem?_toArray, List.getElem?_cons_zero, List.getElem?_cons_succ]; rfl
        case hwa17 => rfl
        simp only [Act.put, List.setIfInBounds_toArray, List.set_cons_zero, List.set_cons_succ]
        refine ext_skip (i := 18) (oi := ?oia18) ?hia18 (by kernel_rfl) (by kernel_rfl) (by kernel_rfl) hQ ?hwa18 ?resta18
        case hia18 => simp only [List.getElem?_toArray, List.getElem?_cons_zero, List.getElem?_cons_succ]; rfl
        case hwa18 => rfl
        simp only [Act.put, List.setIfInBounds_toArray, List.set_cons_zero, List.set_cons_succ]
        refine ext_skip (i := 19) (oi := ?oia19) ?hia19 (by kernel_rfl) (by kernel_rfl) (by kernel_rfl) hQ ?hwa19 ?resta19
        case hia19 => simp only [List.getElem?_toArray, List.getElem?_cons_zero, List.getElem?_cons_succ]; rfl
        case hwa19 => rfl
        simp only [Act.put, List.setIfInBounds_toArray, List.set_cons_zero, List.set_cons_succ]
        refine ext_skip (i := 20) (oi := ?oia20) ?hia20 (by kernel_rfl) (by kernel_rfl) (by kernel_rfl) hQ ?hwa20 ?resta20
        case hia20 => simp only [List.getElem?_toArray, List.getElem?_cons_zero, List.getElem?_cons_succ]; rfl
        case hwa20 => rfl
        simp only [Act.put, List.setIfInBounds_toArray, List.set_cons_zero, List.set_cons_succ]
        refine ext_skip (i := 21) (oi := ?oia21) ?hia21 (by kernel_rfl) (by kernel_rfl) (by kernel_rfl) hQ ?hwa21 ?resta21
        case hia21 => simp only [List.getElem?_toArray, List.getElem?_cons_zero, List.getElem?_cons_succ]; rfl
        case hwa21 => rfl
        simp only [Act.put, List.setIfInBounds_toArray, List.set_cons_zero, List.set_cons_succ]
        refine ext_skip (i := 22) (oi := ?oia22) ?hia22 (by kernel_rfl) (by kernel_rfl) (by kernel_rfl) hQ ?hwa22 ?resta22
        case hia22 => simp only [List.getElem?_toArray, List.getElem?_cons_zero, List.getElem?_cons_succ]; rfl
        case hwa22 => rfl
        simp only [Act.put, List.setIfInBounds_toArray, List.set_cons_zero, List.set_cons_succ]
        refine ext_skip (i := 23) (oi := ?oia23) ?hia23 (by kernel_rfl) (by kernel_rfl) (by kernel_rfl) hQ ?hwa23 ?resta23
        case hia23 => simp only [List.getElem?_toArray, List.getElem?_cons_zero, List.getElem?_cons_succ]; rfl
        case hwa23 => rfl
        simp only [Act.put, List.setIfInBounds_toArray, List.set_cons_zero, List.set_cons_succ]
        refine ext_skip (i := 24) (oi := ?oia24) ?hia24 (by kernel_rfl) (by kernel_rfl) (by kernel_rfl) hQ ?hwa24 ?resta24
        case hia24 => simp only [List.getElem?_toArray, List.getElem?_cons_zero, List.getElem?_cons_succ]; rfl
        case hwa24 => rfl
        simp only [Act.put, List.setIfInBounds_toArray, List.set_cons_zero, List.set_cons_succ]
        refine ext_take (i := 25) (oi := ?oia25) (v := ?va25) ?hia25 (by kernel_rfl) (by kernel_rfl) (by kernel_rfl) hQ ?hwa25 ?hya25 ?resta25
        case hia25 => simp only [List.getElem?_toArray, List.getElem?_cons_zero, List.getElem?_cons_succ]; rfl
        case hwa25 => rfl
        case hya25 => intro W hW; go_simp; with_reducible rfl
        simp only [Act.put, List.setIfInBounds_toArray, List.set_cons_zero, List.set_cons_succ]
        refine wpAnyH_done (by kernel_rfl) ?_ _
        simp only [NoP]
        go_wp2_with fail
        go_ret
        exact ⟨by rw [HE.out]; rfl, hB⟩
      subst hne
      have e0 : ((b : Int) != (b : Int)) = false := by simp
      by_cases hlm : l = m
      rotate_left
      · have HE := Lib.hid (show decide (L = L2) = false from by
          rw [decide_eq_false_iff_not]
          exact at_ne HZ.out.1 HZ.out.2 (fun e => hlm (congrArg Prod.snd e)))
        have hst := str_ne hlm
        have hs1 : (l == m) = false := by rw [beq_eq_false_iff_ne]; exact hlm
        have hs2 : (l != m) = true := by rw [bne_iff_ne]; exact hlm
        have hs3 : decide (l = m) = false := decide_eq_false hlm
        go_wp2_with fail
        refine nop_wp (ext_start (by kernel_rfl) calm_nop (fun hQ => ?_))
        replace hB := hB.drew
        replace c0 : wr.drew.cell? _ = _ := c0
        replace c1 : wr.drew.cell? _ = _ := c1
        replace d0 : wr.drew.cell? _ = _ := d0
        replace d1 : wr.drew.cell? _ = _ := d1
        replace hab : ad.block < wr.drew.heap.size := hab
        replace hbb : ad2.block < wr.drew.heap.size := hbb
        replace hrl : Rb wr.drew Ai l.length l := hrl
        replace hrm : Rb wr.drew Aj m.length m := hrm
        generalize wr.drew = x at *
        have X0 : ∀ W, Ext x W → W.cell? (ad.add (j * 2)) = some (.int .u8 (b : Int)) := fun W h => (Below.cell h (by rw [block_of_add]; exact hab)).trans c0
        have Y0 : ∀ W, Ext x W → W.cell? (ad2.add (j * 2)) = some (.int .u8 (b : Int)) := fun W h => (Below.cell h (by rw [block_of_add]; exact hbb)).trans d0
        have X1 : ∀ W, Ext x W → W.cell? { block := (ad.add (j * 2)).block, off := (ad.add (j * 2)).off + 1 } = some (.slice Ai l.length ci) := fun W h => (Below.cell h (by show (ad.add (j * 2)).block < _; rw [block_of_add]; exact hab)).trans c1
        have Y1 : ∀ W, Ext x W → W.cell? { block := (ad2.add (j * 2)).block, off := (ad2.add (j * 2)).off + 1 } = some (.slice Aj m.length cj) := fun W h => (Below.cell h (by show (ad2.add (j * 2)).block < _; rw [block_of_add]; exact hbb)).trans d1
        have Z0 : ∀ W, Ext x W → (convert 22 9 (.slice Ai l.length ci)).run Try.prog W = .ok (.string ⟨l.toArray⟩) W := fun W h => conv_to_str _ _ _ Try.underlying22 Try.underlying5 Try.underlying9 ci (hrl.mv h)
        have Z1 : ∀ W, Ext x W → (convert 22 9 (.slice Aj m.length cj)).run Try.prog W = .ok (.string ⟨m.toArray⟩) W := fun W h => conv_to_str _ _ _ Try.underlying22 Try.underlying5 Try.underlying9 cj (hrm.mv h)
        refine ext_take (i := 0) (oi := ?oib0) (v := ?vb0) ?hib0 (by kernel_rfl) (by kernel_rfl) (by kernel_rfl) hQ ?hwb0 ?hyb0 ?restb0
        case hib0 => simp only [List.getElem?_toArray, List.getElem?_cons_zero]; rfl
        case hwb0 => rfl
        case hyb0 => intro W hW; go_simp; with_reducible rfl
        simp only [Act.put, List.setIfInBounds_toArray, List.set_cons_zero, List.set_cons_succ]
        refine ext_take (i := 1) (oi := ?oib1) (v := ?vb1) ?hib1 (by kernel_rfl) (by kernel_rfl) (by kernel_rfl) hQ ?hwb1 ?hyb1 ?restb1
        case hib1 => simp only [List.getElem?_toArray, List.getElem?_cons_zero, List.getElem?_cons_succ]; rfl
        case hwb1 => rfl
        case hyb1 => intro W hW; go_simp; with_reducible rfl
        simp only [Act.put, List.setIfInBounds_toArray, List.set_cons_zero, List.set_cons_succ]
        refine ext_take (i := 2) (oi := ?oib2) (v := ?vb2) ?hib2 (by kernel_rfl) (by kernel_rfl) (by kernel_rfl) hQ ?hwb2 ?hyb2 ?restb2
        case hib2 => simp only [List.getElem?_toArray, List.getElem?_cons_zero, List.getElem?_cons_succ]; rfl
        case hwb2 => rfl
        case hyb2 => intro W hW; go_simp; with_reducible rfl
        simp only [Act.put, List.setIfInBounds_toArray, List.set_cons_zero, List.set_cons_succ]
        refine ext_take (i := 3) (oi := ?oib3) (v := ?vb3) ?hib3 (by kernel_rfl) (by kernel_rfl) (by kernel_rfl) hQ ?hwb3 ?hyb3 ?restb3
        case hib3 => simp only [List.getElem?_toArray, List.getElem?_cons_zero, List.getElem?_cons_succ]; rfl
        case hwb3 => rfl
        case hyb3 => intro W hW; go_simp; with_reducible rfl
        simp only [Act.put, List.setIfInBounds_toArray, List.set_cons_zero, List.set_cons_succ]
        refine ext_take (i := 4) (oi := ?oib4) (v := ?vb4) ?hib4 (by kernel_rfl) (by kernel_rfl) (by kernel_rfl) hQ ?hwb4 ?hyb4 ?restb4
        case hib4 => simp only [List.getElem?_toArray, List.getElem?_cons_zero, List.getElem?_cons_succ]; rfl
        case hwb4 => rfl
        case hyb4 => intro W hW; go_simp; with_reducible rfl
        simp only [Act.put, List.setIfInBounds_toArray, List.set_cons_zero, List.set_cons_succ]
        refine ext_take (i := 5) (oi := ?oib5) (v := ?vb5) ?hib5 (by kernel_rfl) (by kernel_rfl) (by kernel_rfl) hQ ?hwb5 ?hyb5 ?restb5
        case hib5 => simp only [List.getElem?_toArray, List.getElem?_cons_zero, List.getElem?_cons_succ]; rfl
        case hwb5 => rfl
        case hyb5 => intro W hW; go_simp; with_reducible rfl
        simp only [Act.put, List.setIfInBounds_toArray, List.set_cons_zero, List.set_cons_succ]
        refine ext_take (i := 6) (oi := ?oib6) (v := ?vb6) ?hib6 (by kernel_rfl) (by kernel_rfl) (by kernel_rfl) hQ ?hwb6 ?hyb6 ?restb6
        case hib6 => simp only [List.getElem?_toArray, List.getElem?_cons_zero, List.getElem?_cons_succ]; rfl
        case hwb6 => rfl
        case hyb6 => intro W hW; go_simp; with_reducible rfl
        simp only [Act.put, List.setIfInBounds_toArray, List.set_cons_zero, List.set_cons_succ]
        refine ext_take (i := 7) (oi := ?oib7) (v := ?vb7) ?hib7 (by kernel_rfl) (by kernel_rfl) (by kernel_rfl) hQ ?hwb7 ?hyb7 ?restb7
        case hib7 => simp only [List.getElem?_toArray, List.getElem?_cons_zero, List.getElem?_cons_succ]; rfl
        case hwb7 => rfl
        case hyb7 => intro W hW; go_simp; with_reducible rfl
        simp only [Act.put, List.setIfInBounds_toArray, List.set_cons_zero, List.set_cons_succ]
        refine ext_take (i := 8) (oi := ?oib8) (v := ?vb8) ?hib8 (by kernel_rfl) (by kernel_rfl) (by kernel_rfl) hQ ?hwb8 ?hyb8 ?restb8
        case hib8 => simp only [List.getElem?_toArray, List.getElem?_cons_zero, List.getElem?_cons_succ]; rfl
        case hwb8 => rfl
        case hyb8 => intro W hW; go_simp; with_reducible rfl
        simp only [Act.put, List.setIfInBounds_toArray, List.set_cons_zero, List.set_cons_succ]
        refine ext_take (i := 9) (oi := ?oib9) (v := ?vb9) ?hib9 (by kernel_rfl) (by kernel_rfl) (by kernel_rfl) hQ ?hwb9 ?hyb9 ?restb9
        case hib9 => simp only [List.getElem?_toArray, List.getElem?_cons_zero, List.getElem?_cons_succ]; rfl
        case hwb9 => rfl
        case hyb9 => intro W hW; go_simp; with_reducible rfl
        simp only [Act.put, List.setIfInBounds_toArray, List.set_cons_zero, List.set_cons_succ]
        refine ext_take (i := 10) (oi := ?oib10) (v := ?vb10) ?hib10 (by kernel_rfl) (by kernel_rfl) (by kernel_rfl) hQ ?hwb10 ?hyb10 ?restb10
        case hib10 => simp only [List.getElem?_toArray, List.getElem?_cons_zero, List.getElem?_cons_succ]; rfl
        case hwb10 => rfl
        case hyb10 => intro W hW; go_simp; with_reducible rfl
        simp only [Act.put, List.setIfInBounds_toArray, List.set_cons_zero, List.set_cons_succ]
        refine ext_take (i := 11) (oi := ?oib11) (v := ?vb11) ?hib11 (by kernel_rfl) (by kernel_rfl) (by kernel_rfl) hQ ?hwb11 ?hyb11 ?restb11
        case hib11 => simp only [List.getElem?_toArray, List.getElem?_cons_zero, List.getElem?_cons_succ]; rfl
        case hwb11 => rfl
        case hyb11 => intro W hW; go_simp; with_reducible rfl
        simp only [Act.put, List.setIfInBounds_toArray, List.set_cons_zero, List.set_cons_succ]
        refine ext_take (i := 12) (oi := ?oib12) (v := ?vb12) ?hib12 (by kernel_rfl) (by kernel_rfl) (by kernel_rfl) hQ ?hwb12 ?hyb12 ?restb12
        case hib12 => simp only [List.getElem?_toArray, List.getElem?_cons_zero, List.getElem?_cons_succ]; rfl
        case hwb12 => rfl
        case hyb12 => intro W hW; go_simp; with_reducible rfl
        simp only [Act.put, List.setIfInBounds_toArray, List.set_cons_zero, List.set_cons_succ]
        refine ext_take (i := 13) (oi := ?oib13) (v := ?vb13) ?hib13 (by kernel_rfl) (by kernel_rfl) (by kernel_rfl) hQ ?hwb13 ?hyb13 ?restb13
        case hib13 => simp only [List.getElem?_toArray, List.getElem?_cons_zero, List.getElem?_cons_succ]; rfl
        case hwb13 => rfl
        case hyb13 => intro W hW; go_simp; with_reducible rfl
        simp only [Act.put, List.setIfInBounds_toArray, List.set_cons_zero, List.set_cons_succ]
        refine ext_take (i := 14) (oi := ?oib14) (v := ?vb14) ?hib14 (by kernel_rfl) (by kernel_rfl) (by kernel_rfl) hQ ?hwb14 ?hyb14 ?restb14
        case hib14 => simp only [List.getElem?_toArray, List.getElem?_cons_zero, List.getElem?_cons_succ]; rfl
        case hwb14 => rfl
        case hyb14 => intro W hW; go_simp; with_reducible rfl
        simp only [Act.put, List.setIfInBounds_toArray, List.set_cons_zero, List.set_cons_succ]
        refine ext_take (i := 15) (oi := ?oib15) (v := ?vb15) ?hib15 (by kernel_rfl) (by kernel_rfl) (by kernel_rfl) hQ ?hwb15 ?hyb15 ?restb15
        case hib15 => simp only [List.getElem?_toArray, List.getElem?_cons_zero, List.getElem?_cons_succ]; rfl
        case hwb15 => rfl
        case hyb15 => intro W hW; go_simp; with_reducible rfl
        simp only [Act.put, List.setIfInBounds_toArray, List.set_cons_zero, List.set_cons_succ]
        refine ext_take (i := 16) (oi := ?oib16) (v := ?vb16) ?hib16 (by kernel_rfl) (by kernel_rfl) (by kernel_rfl) hQ ?hwb16 ?hyb16 ?restb16
        case hib16 => simp only [List.getElem?_toArray, List.getElem?_cons_zero, List.getElem?_cons_succ]; rfl
        case hwb16 => rfl
        case hyb16 => intro W hW; go_simp; with_reducible rfl
        simp only [Act.put, List.setIfInBounds_toArray, List.set_cons_zero, List.set_cons_succ]
        refine ext_take (i := 17) (oi := ?oib17) (v := ?vb17) ?hib17 (by kernel_rfl) (by kernel_rfl) (by kernel_rfl) hQ ?hwb17 ?hyb17 ?restb17
        case hib17 => simp only [List.getElem?_toArray, List.getElem?_cons_zero, List.getElem?_cons_succ]; rfl
        case hwb17 => rfl
        case hyb17 => intro W hW; go_simp; with_reducible rfl
        simp only [Act.put, List.setIfInBounds_toArray, List.set_cons_zero, List.set_cons_succ]
        refine ext_take (i := 18) (oi := ?oib18) (v := ?vb18) ?hib18 (by kernel_rfl) (by kernel_rfl) (by kernel_rfl) hQ ?hwb18 ?hyb18 ?restb18
        case hib18 => simp only [List.getElem?_toArray, List.getElem?_cons_zero, List.getElem?_cons_succ]; rfl
        case hwb18 => rfl
        case hyb18 => intro W hW; go_simp; with_reducible rfl
        simp only [Act.put, List.setIfInBounds_toArray, List.set_cons_zero, List.set_cons_succ]
        refine ext_take (i := 19) (oi := ?oib19) (v := ?vb19) ?hib19 (by kernel_rfl) (by kernel_rfl) (by kernel_rfl) hQ ?hwb19 ?hyb19 ?restb19
        case hib19 => simp only [List.getElem?_toArray, List.getElem?_cons_zero, List.getElem?_cons_succ]; rfl
        case hwb19 => rfl
        case hyb19 => intro W hW; go_simp; with_reducible rfl
        simp only [Act.put, List.setIfInBounds_toArray, List.set_cons_zero, List.set_cons_succ]
        refine ext_take (i := 20) (oi := ?oib20) (v := ?vb20) ?hib20 (by kernel_rfl) (by kernel_rfl) (by kernel_rfl) hQ ?hwb20 ?hyb20 ?restb20
        case hib20 => simp only [List.getElem?_toArray, List.getElem?_cons_zero, List.getElem?_cons_succ]; rfl
        case hwb20 => rfl
        case hyb20 => intro W hW; go_simp; with_reducible rfl
        simp only [Act.put, List.setIfInBounds_toArray, List.set_cons_zero, List.set_cons_succ]
        refine ext_take (i := 21) (oi := ?oib21) (v := ?vb21) ?hib21 (by kernel_rfl) (by kernel_rfl) (by kernel_rfl) hQ ?hwb21 ?hyb21 ?restb21
        case hib21 => simp only [List.getElem?_toArray, List.getElem?_cons_zero, List.getElem?_cons_succ]; rfl
        case hwb21 => rfl
        case hyb21 => intro W hW; go_simp; with_reducible rfl
        simp only [Act.put, List.setIfInBounds_toArray, List.set_cons_zero, List.set_cons_succ]
        refine ext_take (i := 22) (oi := ?oib22) (v := ?vb22) ?hib22 (by kernel_rfl) (by kernel_rfl) (by kernel_rfl) hQ ?hwb22 ?hyb22 ?restb22
        case hib22 => simp only [List.getElem?_toArray, List.getElem?_cons_zero, List.getElem?_cons_succ]; rfl
        case hwb22 => rfl
        case hyb22 => intro W hW; go_simp; with_reducible rfl
        simp only [Act.put, List.setIfInBounds_toArray, List.set_cons_zero, List.set_cons_succ]
        refine ext_take (i := 23) (oi := ?oib23) (v := ?vb23) ?hib23 (by kernel_rfl) (by kernel_rfl) (by kernel_rfl) hQ ?hwb23 ?hyb23 ?restb23
        case hib23 => simp only [List.getElem?_toArray, List.getElem?_cons_zero, List.getElem?_cons_succ]; rfl
        case hwb23 => rfl
        case hyb23 => intro W hW; go_simp; with_reducible rfl
        simp only [Act.put, List.setIfInBounds_toArray, List.set_cons_zero, List.set_cons_succ]
        refine ext_take (i := 24) (oi := ?oib24) (v := ?vb24) ?hib24 (by kernel_rfl) (by kernel_rfl) (by kernel_rfl) hQ ?hwb24 ?hyb24 ?restb24
        case hib24 => simp only [List.getElem?_toArray, List.getElem?_cons_zero, List.getElem?_cons_succ]; rfl
        case hwb24 => rfl
        case hyb24 => intro W hW; go_simp; with_reducible rfl
        simp only [Act.put, List.setIfInBounds_toArray, List.set_cons_zero, List.set_cons_succ]
        refine ext_take (i := 25) (oi := ?oib25) (v := ?vb25) ?hib25 (by kernel_rfl) (by kernel_rfl) (by kernel_rfl) hQ ?hwb25 ?hyb25 ?restb25
        case hib25 => simp only [List.getElem?_toArray, List.getElem?_cons_zero, List.getElem?_cons_succ]; rfl
        case hwb25 => rfl
        case hyb25 => intro W hW; go_simp; with_reducible rfl
        simp only [Act.put, List.setIfInBounds_toArray, List.set_cons_zero, List.set_cons_succ]
        refine wpAnyH_done (by kernel_rfl) ?_ _
        simp only [NoP]
        go_wp2_with fail
        go_ret
        exact ⟨by rw [HE.out]; rfl, hB⟩
      have HN := Lib.hid (upto_eq HZ.out.1 HZ.out.2 HT.out (by rw [hlm]))
      subst hlm
      go_wp2_with fail
      refine nop_wp (ext_start (by kernel_rfl) calm_nop (fun hQ => ?_))
      replace hB := hB.drew
      replace c0 : wr.drew.cell? _ = _ := c0
      replace c1 : wr.drew.cell? _ = _ := c1
      replace d0 : wr.drew.cell? _ = _ := d0
      replace d1 : wr.drew.cell? _ = _ := d1
      replace hab : ad.block < wr.drew.heap.size := hab
      replace hbb : ad2.block < wr.drew.heap.size := hbb
      replace hrl : Rb wr.drew Ai l.length l := hrl
      replace hrm : Rb wr.drew Aj l.length l := hrm
      generalize wr.drew = x at *
      have X0 : ∀ W, Ext x W → W.cell? (ad.add (j * 2)) = some (.int .u8 (b : Int)) := fun W h => (Below.cell h (by rw [block_of_add]; exact hab)).trans c0
      have Y0 : ∀ W, Ext x W → W.cell? (ad2.add (j * 2)) = some (.int .u8 (b : Int)) := fun W h => (Below.cell h (by rw [block_of_add]; exact hbb)).trans d0
      have X1 : ∀ W, Ext x W → W.cell? { block := (ad.add (j * 2)).block, off := (ad.add (j * 2)).off + 1 } = some (.slice Ai l.length ci) := fun W h => (Below.cell h (by show (ad.add (j * 2)).block < _; rw [block_of_add]; exact hab)).trans c1
      have Y1 : ∀ W, Ext x W → W.cell? { block := (ad2.add (j * 2)).block, off := (ad2.add (j * 2)).off + 1 } = some (.slice Aj l.length cj) := fun W h => (Below.cell h (by show (ad2.add (j * 2)).block < _; rw [block_of_add]; exact hbb)).trans d1
      have Z0 : ∀ W, Ext x W → (convert 22 9 (.slice Ai l.length ci)).run Try.prog W = .ok (.string ⟨l.toArray⟩) W := fun W h => conv_to_str _ _ _ Try.underlying22 Try.underlying5 Try.underlying9 ci (hrl.mv h)
      have Z1 : ∀ W, Ext x W → (convert 22 9 (.slice Aj l.length cj)).run Try.prog W = .ok (.string ⟨l.toArray⟩) W := fun W h => conv_to_str _ _ _ Try.underlying22 Try.underlying5 Try.underlying9 cj (hrm.mv h)
      refine ext_take (i := 0) (oi := ?oic0) (v := ?vc0) ?hic0 (by kernel_rfl) (by kernel_rfl) (by kernel_rfl) hQ ?hwc0 ?hyc0 ?restc0
      case hic0 => simp only [List.getElem?_toArray, List.getElem?_cons_zero]; rfl
      case hwc0 => rfl
      case hyc0 => intro W hW; go_simp; with_reducible rfl
      simp only [Act.put, List.setIfInBounds_toArray, List.set_cons_zero, List.set_cons_succ]
      refine ext_take (i := 1) (oi := ?oic1) (v := ?vc1) ?hic1 (by kernel_rfl) (by kernel_rfl) (by kernel_rfl) hQ ?hwc1 ?hyc1 ?restc1
      case hic1 => simp only [List.getElem?_toArray, List.getElem?_cons_zero, List.getElem?_cons_succ]; rfl
      case hwc1 => rfl
      case hyc1 => intro W hW; go_simp; with_reducible rfl
      simp only [Act.put, List.setIfInBounds_toArray, List.set_cons_zero, List.set_cons_succ]
      refine ext_take (i := 2) (oi := ?oic2) (v := ?vc2) ?hic2 (by kernel_rfl) (by kernel_rfl) (by kernel_rfl) hQ ?hwc2 ?hyc2 ?restc2
      case hic2 => simp only [List.getElem?_toArray, List.getElem?_cons_zero, List.getElem?_cons_succ]; rfl
      case hwc2 => rfl
      case hyc2 => intro W hW; go_simp; with_reducible rfl
      simp only [Act.put, List.setIfInBounds_toArray, List.set_cons_zero, List.set_cons_succ]
      refine ext_take (i := 3) (oi := ?oic3) (v := ?vc3) ?hic3 (by kernel_rfl) (by kernel_rfl) (by kernel_rfl) hQ ?hwc3 ?hyc3 ?restc3
      case hic3 => simp only [List.getElem?_toArray, List.getElem?_cons_zero, List.getElem?_cons_succ]; rfl
      case hwc3 => rfl
      case hyc3 => intro W hW; go_simp; with_reducible rfl
      simp only [Act.put, List.setIfInBounds_toArray, List.set_cons_zero, List.set_cons_succ]
      refine ext_take (i := 4) (oi := ?oic4) (v := ?vc4) ?hic4 (by kernel_rfl) (by kernel_rfl) (by kernel_rfl) hQ ?hwc4 ?hyc4 ?restc4
      case hic4 => simp only [List.getElem?_toArray, List.getElem?_cons_zero, List.getElem?_cons_succ]; rfl
      case hwc4 => rfl
      case hyc4 => intro W hW; go_simp; with_reducible rfl
      simp only [Act.put, List.setIfInBounds_toArray, List.set_cons_zero, List.set_cons_succ]
      refine ext_take (i := 5) (oi := ?oic5) (v := ?vc5) ?hic5 (by kernel_rfl) (by kernel_rfl) (by kernel_rfl) hQ ?hwc5 ?hyc5 ?restc5
      case hic5 => simp only [List.getElem?_toArray, List.getElem?_cons_zero, List.getElem?_cons_succ]; rfl
      case hwc5 => rfl
      case hyc5 => intro W hW; go_simp; with_reducible rfl
      simp only [Act.put, List.setIfInBounds_toArray, List.set_cons_zero, List.set_cons_succ]
      refine ext_take (i := 6) (oi := ?oic6) (v := ?vc6) ?hic6 (by kernel_rfl) (by kernel_rfl) (by kernel_rfl) hQ ?hwc6 ?hyc6 ?restc6
      case hic6 => simp only [List.getElem?_toArray, List.getElem?_cons_zero, List.getElem?_cons_succ]; rfl
      case hwc6 => rfl
      case hyc6 => intro W hW; go_simp; with_reducible rfl
      simp only [Act.put, List.setIfInBounds_toArray, List.set_cons_zero, List.set_cons_succ]
      refine ext_take (i := 7) (oi := ?oic7) (v := ?vc7) ?hic7 (by kernel_rfl) (by kernel_rfl) (by kernel_rfl) hQ ?hwc7 ?hyc7 ?restc7
      case hic7 => simp only [List.getElem?_toArray, List.getElem?_cons_zero, List.getElem?_cons_succ]; rfl
      case hwc7 => rfl
      case hyc7 => intro W hW; go_simp; with_reducible rfl
      simp only [Act.put, List.setIfInBounds_toArray, List.set_cons_zero, List.set_cons_succ]
      refine ext_take (i := 8) (oi := ?oic8) (v := ?vc8) ?hic8 (by kernel_rfl) (by kernel_rfl) (by kernel_rfl) hQ ?hwc8 ?hyc8 ?restc8
      case hic8 => simp only [List.getElem?_toArray, List.getElem?_cons_zero, List.getElem?_cons_succ]; rfl
      case hwc8 => rfl
      case hyc8 => intro W hW; go_simp; with_reducible rfl
      simp only [Act.put, List.setIfInBounds_toArray, List.set_cons_zero, List.set_cons_succ]
      refine ext_take (i := 9) (oi := ?oic9) (v := ?vc9) ?hic9 (by kernel_rfl) (by kernel_rfl) (by kernel_rfl) hQ ?hwc9 ?hyc9 ?restc9
      case hic9 => simp only [List.getElem?_toArray, List.getElem?_cons_zero, List.getElem?_cons_succ]; rfl
      case hwc9 => rfl
      case hyc9 => intro W hW; go_simp; with_reducible rfl
      simp only [Act.put, List.setIfInBounds_toArray, List.set_cons_zero, List.set_cons_succ]
      refine ext_take (i := 10) (oi := ?oic10) (v := ?vc10) ?hic10 (by kernel_rfl) (by kernel_rfl) (by kernel_rfl) hQ ?hwc10 ?hyc10 ?restc10
      case hic10 => simp only [List.getElem?_toArray, List.getElem?_cons_zero, List.getElem?_cons_succ]; rfl
      case hwc10 => rfl
      case hyc10 => intro W hW; go_simp; with_reducible rfl
      simp only [Act.put, List.setIfInBounds_toArray, List.set_cons_zero, List.set_cons_succ]
      refine ext_take (i := 11) (oi := ?oic11) (v := ?vc11) ?hic11 (by kernel_rfl) (by kernel_rfl) (by kernel_rfl) hQ ?hwc11 ?hyc11 ?restc11
      case hic11 => simp only [List.getElem?_toArray, List.getElem?_cons_zero, List.getElem?_cons_succ]; rfl
      case hwc11 => rfl
      case hyc11 => intro W hW; go_simp; with_reducible rfl
      simp only [Act.put, List.setIfInBounds_toArray, List.set_cons_zero, List.set_cons_succ]
      refine ext_take (i := 12) (oi := ?oic12) (v := ?vc12) ?hic12 (by kernel_rfl) (by kernel_rfl) (by kernel_rfl) hQ ?hwc12 ?hyc12 ?restc12
      case hic12 => simp only [List.getElem?_toArray, List.getElem?_cons_zero, List.getElem?_cons_succ]; rfl
      case hwc12 => rfl
      case hyc12 => intro W hW; go_simp; with_reducible rfl
      simp only [Act.put, List.setIfInBounds_toArray, List.set_cons_zero, List.set_cons_succ]
      refine ext_take (i := 13) (oi := ?oic13) (v := ?vc13) ?hic13 (by kernel_rfl) (by kernel_rfl) (by kernel_rfl) hQ ?hwc13 ?hyc13 ?restc13
      case hic13 => simp only [List.getElem?_toArray, List.getElem?_cons_zero, List.getElem?_cons_succ]; rfl
      case hwc13 => rfl
      case hyc13 => intro W hW; go_simp; with_reducible rfl
      simp only [Act.put, List.setIfInBounds_toArray, List.set_cons_zero, List.set_cons_succ]
      refine ext_take (i := 14) (oi := ?oic14) (v := ?vc14) ?hic14 (by kernel_rfl) (by kernel_rfl) (by kernel_rfl) hQ ?hwc14 ?hyc14 ?restc14
      case hic14 => simp only [List.getElem?_toArray, List.getElem?_cons_zero, List.getElem?_cons_succ]; rfl
      case hwc14 => rfl
      case hyc14 => intro W hW; go_simp; with_reducible rfl
      simp only [Act.put, List.setIfInBounds_toArray, List.set_cons_zero, List.set_cons_succ]
      refine ext_take (i := 15) (oi := ?oic15) (v := ?vc15) ?hic15 (by kernel_rfl) (by kernel_rfl) (by kernel_rfl) hQ ?hwc15 ?hyc15 ?restc15
      case hic15 => simp only [List.getElem?_toArray, List.getElem?_cons_zero, List.getElem?_cons_succ]; rfl
      case hwc15 => rfl
      case hyc15 => intro W hW; go_simp; with_reducible rfl
      simp only [Act.put, List.setIfInBounds_toArray, List.set_cons_zero, List.set_cons_succ]
      refine ext_take (i := 16) (oi := ?oic16) (v := ?vc16) ?hic16 (by kernel_rfl) (by kernel_rfl) (by kernel_rfl) hQ ?hwc16 ?hyc16 ?restc16
      case hic16 => simp only [List.getElem?_toArray, List.getElem?_cons_zero, List.getElem?_cons_succ]; rfl
      case hwc16 => rfl
      case hyc16 => intro W hW; go_simp; with_reducible rfl
      simp only [Act.put, List.setIfInBounds_toArray, List.set_cons_zero, List.set_cons_succ]
      refine ext_take (i := 17) (oi := ?oic17) (v := ?vc17) ?hic17 (by kernel_rfl) (by kernel_rfl) (by kernel_rfl) hQ ?hwc17 ?hyc17 ?restc17
      case hic17 => simp only [List.getElem?_toArray, List.getElem?_cons_zero, List.getElem?_cons_succ]; rfl
      case hwc17 => rfl
      case hyc17 => intro W hW; go_simp; with_reducible rfl
      simp only [Act.put, List.setIfInBounds_toArray, List.set_cons_zero, List.set_cons_succ]
      refine ext_take (i := 18) (oi := ?oic18) (v := ?vc18) ?hic18 (by kernel_rfl) (by kernel_rfl) (by kernel_rfl) hQ ?hwc18 ?hyc18 ?restc18
      case hic18 => simp only [List.getElem?_toArray, List.getElem?_cons_zero, List.getElem?_cons_succ]; rfl
      case hwc18 => rfl
      case hyc18 => intro W hW; go_simp; with_reducible rfl
      simp only [Act.put, List.setIfInBounds_toArray, List.set_cons_zero, List.set_cons_succ]
      refine ext_take (i := 19) (oi := ?oic19) (v := ?vc19) ?hic19 (by kernel_rfl) (by kernel_rfl) (by kernel_rfl) hQ ?hwc19 ?hyc19 ?restc19
      case hic19 => simp only [List.getElem?_toArray, List.getElem?_cons_zero, List.getElem?_cons_succ]; rfl
      case hwc19 => rfl
      case hyc19 => intro W hW; go_simp; with_reducible rfl
      simp only [Act.put, List.setIfInBounds_toArray, List.set_cons_zero, List.set_cons_succ]
      refine ext_take (i := 20) (oi := ?oic20) (v := ?vc20) ?hic20 (by kernel_rfl) (by kernel_rfl) (by kernel_rfl) hQ ?hwc20 ?hyc20 ?restc20
      case hic20 => simp only [List.getElem?_toArray, List.getElem?_cons_zero, List.getElem?_cons_succ]; rfl
      case hwc20 => rfl
      case hyc20 => intro W hW; go_simp; with_reducible rfl
      simp only [Act.put, List.setIfInBounds_toArray, List.set_cons_zero, List.set_cons_succ]
      refine ext_take (i := 21) (oi := ?oic21) (v := ?vc21) ?hic21 (by kernel_rfl) (by kernel_rfl) (by kernel_rfl) hQ ?hwc21 ?hyc21 ?restc21
      case hic21 => simp only [List.getElem?_toArray, List.getElem?_cons_zero, List.getElem?_cons_succ]; rfl
      case hwc21 => rfl
      case hyc21 => intro W hW; go_simp; with_reducible rfl
      simp only [Act.put, List.setIfInBounds_toArray, List.set_cons_zero, List.set_cons_succ]
      refine ext_take (i := 22) (oi := ?oic22) (v := ?vc22) ?hic22 (by kernel_rfl) (by kernel_rfl) (by kernel_rfl) hQ ?hwc22 ?hyc22 ?restc22
      case hic22 => simp only [List.getElem?_toArray, List.getElem?_cons_zero, List.getElem?_cons_succ]; rfl
      case hwc22 => rfl
      case hyc22 => intro W hW; go_simp; with_reducible rfl
      simp only [Act.put, List.setIfInBounds_toArray, List.set_cons_zero, List.set_cons_succ]
      refine ext_take (i := 23) (oi := ?oic23) (v := ?vc23) ?hic23 (by kernel_rfl) (by kernel_rfl) (by kernel_rfl) hQ ?hwc23 ?hyc23 ?restc23
      case hic23 => simp only [List.getElem?_toArray, List.getElem?_cons_zero, List.getElem?_cons_succ]; rfl
      case hwc23 => rfl
      case hyc23 => intro W hW; go_simp; with_reducible rfl
      simp only [Act.put, List.setIfInBounds_toArray, List.set_cons_zero, List.set_cons_succ]
      refine ext_take (i := 24) (oi := ?oic24) (v := ?vc24) ?hic24 (by kernel_rfl) (by kernel_rfl) (by kernel_rfl) hQ ?hwc24 ?hyc24 ?restc24
      case hic24 => simp only [List.getElem?_toArray, List.getElem?_cons_zero, List.getElem?_cons_succ]; rfl
      case hwc24 => rfl
      case hyc24 => intro W hW; go_simp; with_reducible rfl
      simp only [Act.put, List.setIfInBounds_toArray, List.set_cons_zero, List.set_cons_succ]
      refine ext_take (i := 25) (oi := ?oic25) (v := ?vc25) ?hic25 (by kernel_rfl) (by kernel_rfl) (by kernel_rfl) hQ ?hwc25 ?hyc25 ?restc25
      case hic25 => simp only [List.getElem?_toArray, List.getElem?_cons_zero, List.getElem?_cons_succ]; rfl
      case hwc25 => rfl
      case hyc25 => intro W hW; go_simp; with_reducible rfl
      simp only [Act.put, List.setIfInBounds_toArray, List.set_cons_zero, List.set_cons_succ]
      refine wpAnyH_done (by kernel_rfl) ?_ _
      simp only [NoP]
      go_wp2_with fail
      go_roundw
      case rel => exact ⟨j + 1, by omega, by go_num, HN.out, hB⟩
      case measure => simp [intOf]; omega
    · have HE := Lib.hid (show decide (L = L2) = true from by
        have h := HT.out
        rw [List.take_of_length_le (by rw [HL.out.1]; omega), List.take_of_length_le (by rw [HL.out.2]; omega)] at h
        rw [decide_eq_true_eq]; exact h)
      go_wp2_with fail
      go_ret
      exact ⟨by rw [HE.out]; rfl, hB⟩

end Go.Proofs.Yteaaiacgebikpaa
