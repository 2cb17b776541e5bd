/- Contracts and laws of a chapter that its statement of names leans on. Each states its conditions. -/
import Derived.Test.YtldaijkcmnnjpaaHd1
namespace Go.Proofs.Ytldaijkcmnnjpaa
open Go.RowKit Wire
set_option linter.unusedVariables false
/-- Numbers as bytes. -/
def vrs (ns : List Nat) : List UInt8 := (ns.map vry).flatten
theorem vrs_take {ns : List Nat} {j n : Nat} (h : ns[j]? = some n) : vrs (ns.take (j + 1)) = vrs (ns.take j) ++ vry n := by
  rw [List.take_add_one, h]
  simp [vrs]
/-- What was there stays, but for the row's own block, and where the row lies now. -/
def KeepO (w : World) (O : Option Nat) (wr : World) (v : Option Nat) : Prop :=
  w.heap.size ≤ wr.heap.size ∧ (∀ k, k < w.heap.size → O ≠ some k → wr.heap[k]? = w.heap[k]?) ∧ (v = O ∨ ∃ q, v = some q ∧ w.heap.size ≤ q)
theorem KeepO.refl (w : World) (O : Option Nat) : KeepO w O w O := ⟨Nat.le_refl _, fun _ _ _ => rfl, .inl rfl⟩
theorem KeepO.call {w wr w2 : World} {O v : Option Nat} (h : KeepO w O wr v) (b : Below wr.heap.size wr w2) : KeepO w O w2 v :=
  ⟨Nat.le_trans h.1 b.size, fun k hk hO => (b.block k (Nat.lt_of_lt_of_le hk h.1)).trans (h.2.1 k hk hO), h.2.2⟩
theorem KeepO.app {w wr w2 : World} {O v v' : Option Nat} (h : KeepO w O wr v) (hg : wr.grownBy w2 v) (hl : v' = v ∨ v' = some wr.heap.size) : KeepO w O w2 v' := by
  refine ⟨Nat.le_trans h.1 (World.grownBy.size hg), fun k hk hO => (hg.block k (Nat.lt_of_lt_of_le hk h.1) (fun e => ?_)).trans (h.2.1 k hk hO), ?_⟩
  · rcases h.2.2 with h2 | ⟨q, h2, h3⟩
    · exact hO (h2 ▸ e.symm)
    · rw [h2] at e; injection e with e; omega
  · rcases hl with rfl | hl
    · exact h.2.2
    · exact .inr ⟨_, hl, h.1⟩
theorem KeepO.trans {u w x : World} {O v z : Option Nat} (h : KeepO u O w v) (h2 : KeepO w v x z) : KeepO u O x z := by
  refine ⟨Nat.le_trans h.1 h2.1, fun k hk hO => (h2.2.1 k (Nat.lt_of_lt_of_le hk h.1) (fun e => ?_)).trans (h.2.1 k hk hO), ?_⟩
  · rcases h.2.2 with h3 | ⟨q, h3, h4⟩
    · exact hO (h3.symm.trans e)
    · rw [h3] at e; injection e with e; omega
  · rcases h2.2.2 with h3 | ⟨q, h3, h4⟩
    · rw [h3]; exact h.2.2
    · exact .inr ⟨q, h3, Nat.le_trans h.1 h4⟩
theorem wp_app8h {P : Program} {w : World} {o : Oper} {a : Act} {K : Act → World → Prop} {Q : Exit → Act → World → Prop} (s x : Operand) (t : TypeId)
    (ho : o.op = .call { callee := .builtin .append, args := #[s, x], argTypes := #[t, t] }) {e : TypeId} (hsl : IsSl P t e (.int .u8 0) 1 1)
    (base : Nat) {A0 : Option Addr} {n c0 : Nat} {l : List UInt8} (hs : a.eval s = .slice A0 n c0) (hown : w.ownsRow base e 1 (.slice A0 n c0) n (l.map b8))
    {B : Nat} {A : Option Addr} {m c : Nat} {l2 : List UInt8} (hx : a.eval x = .slice A m c) (hr : RdB w B A m l2) (N : Nat) (hN : n + m = N)
    (hbytes : N ≤ 140737488355328) (hbase : base ≤ w.heap.size)
    (h : ∀ A' c' w', w'.ownsRow base e 1 (.slice A' N c') N ((l ++ l2).map b8) → w.grownBy w' (Value.slice A0 n c0).ownBlock → Below base w w' → ((Value.slice A' N c').ownBlock = (Value.slice A0 n c0).ownBlock ∨ (Value.slice A' N c').ownBlock = some w.heap.size) → K (a.put o.dst (.slice A' N c')) w') : o.wp P a w K Q := by
  subst hN
  obtain ⟨i0, hi0, hz0, hz1, hz2⟩ := info_parts hsl.hi
  refine wp_append_any w s x t ho base e i0 _ 1 1 hsl.ht hi0 hz0 hz1 hz2 hsl.hz hsl.hs _ n _ hs hown B A m c _ hx hr (b8_one l2) (by unfold maxLen; omega) (by omega) hbase ?_
  intro v' w' hown' hg hat
  obtain ⟨A', c', rfl, _, hc, _⟩ := own_slice hown'
  exact h A' c' w' (by rw [List.map_append]; exact hown') hg ((Below.refl base w).grown hg hbase (fun k hk => (hown.lt k hk).1)) hat
theorem wpList_app8h {P : Program} {w : World} {ops : Array Oper} {rest : List Oper} {o : Oper} {a : Act} {Q : Exit → Act → World → Prop} (hgd : Region.wanted o (yielded ops a.tmps) = true) (s x : Operand) (t : TypeId)
    (ho : o.op = .call { callee := .builtin .append, args := #[s, x], argTypes := #[t, t] }) {e : TypeId} (hsl : IsSl P t e (.int .u8 0) 1 1)
    (base : Nat) {A0 : Option Addr} {n c0 : Nat} {l : List UInt8} (hs : a.eval s = .slice A0 n c0) (hown : w.ownsRow base e 1 (.slice A0 n c0) n (l.map b8))
    {B : Nat} {A : Option Addr} {m c : Nat} {l2 : List UInt8} (hx : a.eval x = .slice A m c) (hr : RdB w B A m l2) (N : Nat) (hN : n + m = N)
    (hbytes : N ≤ 140737488355328) (hbase : base ≤ w.heap.size)
    (h : ∀ A' c' w', w'.ownsRow base e 1 (.slice A' N c') N ((l ++ l2).map b8) → w.grownBy w' (Value.slice A0 n c0).ownBlock → Below base w w' → ((Value.slice A' N c').ownBlock = (Value.slice A0 n c0).ownBlock ∨ (Value.slice A' N c').ownBlock = some w.heap.size) → wpList P ops Q rest (a.put o.dst (.slice A' N c')) w') : wpList P ops Q (o :: rest) a w :=
  BigFrame.wpList_want hgd fun _ hK => wp_app8h s x t ho hsl base hs hown hx hr N hN hbytes hbase fun A' c' w' h2 h3 h4 h5 => hK _ _ (h A' c' w' h2 h3 h4 h5)
set_option maxRecDepth 100000 in
set_option maxHeartbeats 3200000 in
theorem hput_any (B : Nat) (A0 : Option Addr) (n0 c0 : Nat) (l0 : List UInt8) (g k c : Nat) (ns : List Nat) (w : World) (hown : w.ownsRow B 5 1 (.slice A0 n0 c0) n0 (l0.map b8)) (hz : B ≤ w.heap.size) (hg : Blk w g 55 (List.toArray (ns.map fun (n : Nat) => Value.int .u64 (n : Int)))) (hkl : ns.length = k) (hn : ∀ n ∈ ns, n < 18446744073709551616) (hk : k ≤ 1000000) (hn0 : n0 ≤ 1000000) :
    Calls Try.prog 83 #[.slice A0 n0 c0, .slice (some ⟨g, 0, none⟩) k c] w fun e w' => ∃ A' c', e = .returned (.slice A' (l0 ++ vrs ns).length c') ∧ w'.ownsRow B 5 1 (.slice A' (l0 ++ vrs ns).length c') (l0 ++ vrs ns).length ((l0 ++ vrs ns).map b8) ∧ Below B w w' ∧ KeepO w (Value.slice A0 n0 c0).ownBlock w' (Value.slice A' (l0 ++ vrs ns).length c').ownBlock := by
  obtain ⟨ad, had⟩ : ∃ ad : Addr, ad = ⟨g, 0, none⟩ := ⟨_, rfl⟩
  rw [← had]
  have HAD := Lib.hid had
  clear had
  have HN := Lib.hid hn
  have HK := Lib.hid hkl
  clear hkl
  have HOW := Lib.hid hown
  have HM := Lib.hid (show (l0 ++ vrs (ns.take 0)).length = n0 from by have h := hown.1; simp at h; simp [vrs, h])
  clear hown hn
  go_enter Try.func83, Try.ntmps83
  go_wp2_with fail
  go_loopw [0, 9] (fun v i wr => ∃ (j m : Nat) (A1 : Option Addr) (c1 : Nat), j ≤ k ∧ i = .int .i64 (j : Int) ∧ (l0 ++ vrs (ns.take j)).length = m ∧ m ≤ n0 + 10 * j ∧ v = .slice A1 m c1 ∧ wr.ownsRow B 5 1 (.slice A1 m c1) m ((l0 ++ vrs (ns.take j)).map b8) ∧ Blk wr g 55 (List.toArray (ns.map fun (n : Nat) => Value.int .u64 (n : Int))) ∧ Below B w wr ∧ B ≤ wr.heap.size ∧ KeepO w (Value.slice A0 n0 c0).ownBlock wr (Value.slice A1 m c1).ownBlock) (fun _ i _ => k - (intOf i).toNat)
  case atStart => exact ⟨0, n0, A0, c0, by omega, rfl, HM.out, by omega, rfl, by simpa [vrs] using HOW.out, hg, Below.refl _ _, hz, KeepO.refl _ _⟩
  case round =>
    obtain ⟨j, m, A1, c1, hj, rfl, hm, hm2, rfl, hown, hg, hB, hz, hKO⟩ := hrel
    have HM2 := Lib.hid hm
    clear hm
    by_cases hlt : j < k
    · have hj2 : j < ns.length := by rw [HK.out]; exact hlt
      obtain ⟨n, hnj⟩ : ∃ n, ns[j]? = some n := ⟨_, List.getElem?_eq_getElem hj2⟩
      have hn64 : n < 18446744073709551616 := HN.out n (List.mem_of_getElem? hnj)
      have q0 : wr.cell? (ad.add j) = some (.int .u64 (n : Int)) := by
        rw [HAD.out, add_zero_at, hg.cell j]
        simp [hnj]
      have HT := Lib.hid (vrs_take hnj)
      have hv := (vry_len n).2
      clear hnj
      go_wp2_with fail
      refine (vary_any n hn64 _).mono ?_
      rintro e w2 ⟨A2, c2, rfl, o2, b2⟩
      have R2 := own_rd o2
      replace hown := own_call hown b2
      replace hg := hg.below b2 hg.lt
      replace hB := hB.trans (b2.mono hz)
      replace hz := Nat.le_trans hz b2.size
      replace hKO := hKO.call b2
      clear q0 o2 b2
      go_wp2_with (at_builtin; refine wpList_app8h rfl (.tmp 13) (.tmp 15) _ (by rfl) sl8 B (by rfl) hown (by rfl) R2 (m + (vry n).length) rfl (by omega) hz ?_; intro A9 c9 w9 o9 hg9 b9 hl9; have hKO9 := hKO.app hg9 hl9; have hgg := hg.grown hg9 (fun h => own_blk_ne hown hg (by decide) h.symm))
      go_roundw
      case rel => exact ⟨j + 1, m + (vry n).length, A9, c9, by omega, by go_num, by rw [HT.out, ← List.append_assoc, List.length_append, HM2.out], by omega, rfl, by rw [HT.out, ← List.append_assoc]; exact o9, hgg, hB.trans b9, Nat.le_trans hz b9.size, hKO9⟩
      case measure => simp [intOf]; omega
    · obtain rfl : j = k := by omega
      rw [List.take_of_length_le (by rw [HK.out]; omega)] at hown HM2
      go_wp2_with fail
      go_ret
      exact ⟨A1, c1, by rw [HM2.out]; rfl, by rw [HM2.out]; exact hown, hB, by rw [HM2.out]; exact hKO⟩

end Go.Proofs.Ytldaijkcmnnjpaa
