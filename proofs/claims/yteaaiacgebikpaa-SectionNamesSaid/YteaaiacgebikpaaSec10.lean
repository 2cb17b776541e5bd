/- The contract of Read. Each states its conditions. -/
import Derived.Test.YteaaiacgebikpaaSecP
import Derived.Test.YteaaiacgebikpaaSec6
namespace Go.Proofs.Yteaaiacgebikpaa
open Go.RowKit Wire Crc
set_option linter.unusedVariables false

def lenV : Value → Nat | .slice _ n _ => n | _ => 0
def vU (x : Nat) : Value := .int .u64 (x : Int)
theorem slU : IsSl Try.prog 64 62 (.int .u64 0) 1 8 := ⟨Try.underlying64, by kernel_rfl, rfl, by omega, by omega⟩
theorem OwR.grown {w w' : World} {B n c : Nat} {A : Option Addr} {L : List (Nat × List UInt8)} {base' size' n' : Nat} {e' : TypeId} {v' : Value} {xs' : List Value} (h : OwR w B A n c L) (h' : w.ownsRow base' e' size' v' n' xs') (h1 : 32 ≠ e') (h2 : 5 ≠ e') (hg : w.grownBy w' v'.ownBlock) : OwR w' B A n c L := by
  obtain ⟨k1, vs, k2, k3, k4, k5⟩ := h
  refine ⟨k1, vs, k2, k3, own_grow k4 h' h1 hg, fun k p hp => ?_⟩
  obtain ⟨Ai, ci, g1, g2, g3⟩ := k5 k p hp
  exact ⟨Ai, ci, g1, own_grow g2 h' h2 hg, g3⟩
theorem own_cell {w : World} {base : Nat} {e : TypeId} {A : Option Addr} {n c : Nat} {l : List Nat} (h : w.ownsRow base e 1 (.slice A n c) n (l.map vU)) {k : Nat} (hk : k < n) :
    ∃ ad z, A = some ad ∧ l[k]? = some z ∧ w.cell? (ad.add k) = some (.int .u64 (z : Int)) := by
  have hr := own_reads h
  obtain ⟨ad, u, rfl, _, hx, hc⟩ := hr.at_ hk
  rw [List.getElem?_map] at hx
  cases hz : l[k]? with
  | none => rw [hz] at hx; cases hx
  | some z =>
    rw [hz] at hx
    injection hx with hx
    exact ⟨ad, z, rfl, rfl, by rw [hc, ← hx]; rfl⟩

set_option maxRecDepth 100000 in
set_option maxHeartbeats 6400000 in
theorem read25_any (A : Option Addr) (n0 c : Nat) (b : List UInt8) (w : World) (hr : Rb w A n0 b) (hc : n0 ≤ c ∧ c ≤ 9223372036854775807) :
    Calls Try.prog 10 #[.slice A n0 c] w fun e w' => ∃ A' c', e = .returned (.tuple #[.slice A' (redS b).1.length c', .int .i64 (redS b).2]) ∧ OwR w' w.heap.size A' (redS b).1.length c' (redS b).1 ∧ Below w.heap.size w w' := by
  have hl := hr.len8
  subst hl
  have HR := Lib.hid hr
  have HC := Lib.hid hc
  obtain ⟨n, hn⟩ : ∃ n, b.length = n := ⟨_, rfl⟩
  have HN := Lib.hid hn
  rw [hn] at hc hr ⊢
  have hn63 : n ≤ 9223372036854775807 := by omega
  by_cases c1 : 200000 < n
  · have HE := Lib.hid (show redS b = ([], 4) from by rw [redS, if_pos (by omega)])
    clear hn
    go_enter Try.func10, Try.ntmps10
    go_wp2_with fail
    go_ret2
    exact ⟨none, 0, by rw [HE.out]; rfl, by rw [HE.out]; exact OwR.nil _ _, Below.refl _ _⟩
  by_cases c2 : n < 10
  · have HE := Lib.hid (show redS b = ([], 24) from by rw [redS, if_neg (by omega), if_pos (by omega)])
    clear hn
    go_enter Try.func10, Try.ntmps10
    go_wp2_with fail
    go_ret2
    exact ⟨none, 0, by rw [HE.out]; rfl, by rw [HE.out]; exact OwR.nil _ _, Below.refl _ _⟩
  obtain ⟨ad, hA, hab, hcell⟩ := hr.2 (by omega)
  obtain ⟨x5, hx5⟩ : ∃ x5, b[5]? = some x5 := ⟨_, List.getElem?_eq_getElem (by omega)⟩
  have h5c := hcell 5 (b8 x5) (by rw [List.getElem?_map, hx5]; rfl)
  rw [add_lit ad 5 (by omega)] at h5c
  have HG5 := Lib.hid (show b.getD 5 0 = x5 from by rw [List.getD_eq_getElem?_getD, hx5]; rfl)
  subst hA
  have KC := Lib.run_convert_bytes_const (P := Try.prog) w 22 5 #[.int .u8 87, .int .u8 82, .int .u8 67, .int .u8 75] 4 4 Try.underlying22 Try.underlying5
  obtain ⟨OM, hOM⟩ : ∃ OM : Obj, OM = .cells #[.int .u8 87, .int .u8 82, .int .u8 67, .int .u8 75] 5 (4, 5) := ⟨_, rfl⟩
  have hU4 : OwU (w.alloc OM) w.heap.size (some ⟨w.heap.size, 0, none⟩) 4 [87, 82, 67, 75] := ⟨rfl, .inr ⟨w.heap.size, _, 4, 5, rfl, Nat.le_refl _, by rw [hOM]; exact heap_alloc_new _ _, .inl (by omega), fun j u hj => by
    rcases j with _ | _ | _ | _ | j
    · simp at hj; subst hj; rfl
    · simp at hj; subst hj; rfl
    · simp at hj; subst hj; rfl
    · simp at hj; subst hj; rfl
    · simp at hj⟩⟩
  have R4 := (hU4.al (.cells #[.int .u8 1] 5)).rd
  obtain ⟨adl, hadl, _, hcl⟩ := R4.2 (by omega)
  have RR : Rb ((w.alloc OM).alloc (.cells #[.int .u8 1] 5)) (some ⟨w.heap.size + 1, 0, none⟩) 1 [1] := by
    have h := reads_bytes (w.alloc OM) [1] 5
    rw [alloc_size, show (([1] : List UInt8).map b8).toArray = #[.int .u8 1] from by simp [b8]] at h
    exact h
  obtain ⟨adn, hadn, _, hcn⟩ := RR.2 (by omega)
  injection hadl with hadl
  injection hadn with hadn
  subst hadl hadn
  have hB4 := (Below.refl w.heap.size w).alloc (Nat.le_refl _) OM
  have hB5 := hB4.alloc hB4.size (.cells #[.int .u8 1] 5)
  obtain ⟨i0, hi0, hz0_, hs0, hb0⟩ := info_parts sl8.hi
  rw [hOM] at hcl hcn hB5
  clear hU4 R4 RR hB4 hOM hr hcell hn hx5
  have d1 : decide ((n : Int) > 200000) = false := by simp; omega
  have d2 : decide ((n : Int) < 10) = false := by simp; omega
  go_enter Try.func10, Try.ntmps10
  go_wp2_with (at_builtin; refine wpList_append_grows _ rfl (.tmp 29) (.tmp 30) 22 rfl 5 i0 (.int .u8 0) 1 1 sl8.ht hi0 hz0_ hs0 hb0 rfl (by omega) (some ⟨w.heap.size, 0, none⟩) 4 4 ([87, 82, 67, 75].map b8) (by rfl) (by simp) rfl (fun b hb => by injection hb with hb; subst hb; exact hcl) ⟨w.heap.size + 1, 0, none⟩ 1 1 (([1] : List UInt8).map b8) (by rfl) rfl hcn (b8_one _) (by omega) (by unfold maxLen; omega) (by omega) ?_; intro v6 w6 o6 g6; obtain ⟨A6, c6, rfl, _, _, _⟩ := own_slice o6; simp only [Nat.reduceAdd] at o6 ⊢)
  rw [← List.map_append, show ([87, 82, 67, 75] : List UInt8) ++ [1] = [87, 82, 67, 75, 1] from rfl] at o6
  have hB6 := hB5.grown g6 hB5.size (fun k hk => by cases hk)
  clear hcl hcn KC hi0 hz0_ hs0 hb0 g6 hB5
  refine (hasprefix25_any (some ad) n c b A6 5 c6 [87, 82, 67, 75, 1] _ (HN.out ▸ HR.out.mv hB6) (own_rd o6) (by omega) hc.1).mono ?_
  rintro e w7 ⟨rfl, b7⟩
  have hB7 := hB6.trans (b7.mono hB6.size)
  replace h5c := (hB7.cell (p := { block := ad.block, off := ad.off + 5 }) hab).trans h5c
  clear b7 hB6 o6
  by_cases c3 : b.take 5 = [87, 82, 67, 75, 1]
  rotate_left
  · have HE := Lib.hid (show redS b = ([], 12) from by rw [redS, if_neg (by have := HN.out; omega), if_neg (by have := HN.out; omega), if_pos c3])
    rw [decide_eq_false c3]
    go_wp2_with fail
    go_ret2
    exact ⟨none, 0, by rw [HE.out]; rfl, by rw [HE.out]; exact OwR.nil _ _, hB7⟩
  rw [decide_eq_true c3]
  have HC3 := Lib.hid c3
  clear c3
  obtain ⟨k, hk⟩ : ∃ k, x5.toNat = k := ⟨_, rfl⟩
  have hk256 : k < 256 := by have := x5.toNat_lt; omega
  have h5c2 : w7.cell? { block := ad.block, off := ad.off + 5 } = some (.int .u8 (k : Int)) := by rw [h5c, b8, hk]
  have i5 : (5 : Int) < (n : Int) := by omega
  clear h5c
  by_cases c4 : 7 < k
  · have HE := Lib.hid (show redS b = ([], 12) from by rw [redS, if_neg (by have := HN.out; omega), if_neg (by have := HN.out; omega), if_neg (by simpa using HC3.out), HG5.out, if_pos (by omega)])
    clear hk
    go_wp2_with fail
    go_ret2
    exact ⟨none, 0, by rw [HE.out]; rfl, by rw [HE.out]; exact OwR.nil _ _, hB7⟩
  have HE := Lib.hid (show redS b = bodS b k from by rw [redS, if_neg (by have := HN.out; omega), if_neg (by have := HN.out; omega), if_neg (by simpa using HC3.out), HG5.out, hk, if_neg (by omega)])
  clear hk
  have e0 : IntKind.i64.wrap (13 * (k : Int)) = ((13 * k : Nat) : Int) := by rw [IntKind.wrap_i64]; omega
  by_cases c5 : n < 10 + 13 * k
  · have HE2 := Lib.hid (show redS b = ([], 24) from by rw [HE.out, bodS, if_pos (by have := HN.out; omega)])
    go_wp2_with fail
    go_ret2
    exact ⟨none, 0, by rw [HE2.out]; rfl, by rw [HE2.out]; exact OwR.nil _ _, hB7⟩
  go_wp2_with fail
  have HK := Lib.hid HE.out
  refine (table_any _).mono ?_
  rintro e w8 ⟨rfl, b8_⟩
  have hz := Lib.hid (zero_of_info tab_zero).1
  have hT0 := Blk.new w8 58 (arr .u32 256 el)
  have hB8 := hB7.trans (b8_.mono hB7.size)
  have hB9 := hB8.alloc hB8.size (.cells (arr .u32 256 el) 58)
  have hgw := hB8.size
  clear b8_ hB8 hB7 h5c2
  go_wp2_with (first
    | (refine wpList_alloc_big rfl 58 rfl _ hz.out ?_)
    | (refine wpList_store_new rfl 58 _ _ rfl w8 rfl _ (arr .u32 256 el) rfl (tab_sized _) (by rw [arr_size, arr_size]) (arr_one _ _ _) ?_))
  obtain ⟨W9, hW9⟩ : ∃ W9, w8.alloc (.cells (arr .u32 256 el) 58) = W9 := ⟨_, rfl⟩
  rw [hW9] at hT0 hB9 ⊢
  clear hW9
  generalize w8.heap.size = g at *
  obtain ⟨E, hE⟩ : ∃ E : Nat, 6 + 13 * k = E := ⟨_, rfl⟩
  have hEI : 6 + 13 * (k : Int) = (E : Int) := by omega
  rw [hEI]
  have HEK := Lib.hid hE
  have hk13 : 13 * k = E - 6 := by omega
  have hE6 : 6 ≤ E := by omega
  have hE97 : E ≤ 97 := by omega
  have hEn : E + 4 ≤ n := by omega
  have HBD := Lib.hid (show redS b = if num4 (b.drop E) ≠ nxt 0 (b.take E) then ([], 22) else endS (rdD k (E + 4) ((b.take E).drop 6) (b.drop (E + 4)) [] []) from by
    rw [HE.out, bodS, if_neg (by have := HN.out; omega), hE, show 10 + 13 * k = E + 4 from by omega])
  have HLB := HN.out
  have HR2 := Lib.hid (show Rb w (some ad) n b from HN.out ▸ HR.out)
  have HRE := Lib.hid (show Rb w (sA (some ad) c 0) E (b.take E) from by
    have := sub_reads (c := c) (i := 0) (v := E) HR2.out (by omega) hc.1
    simpa using this)
  have HRX := Lib.hid (show Rb w (sA (some ad) c E) (n - E) (b.drop E) from by
    have := sub_reads (c := c) (i := E) (v := n - E) HR2.out (by omega) hc.1
    rwa [List.take_of_length_le (by rw [List.length_drop]; omega)] at this)
  have HRR := Lib.hid (show Rb w (sA (some ad) c (E + 4)) (b.drop (E + 4)).length (b.drop (E + 4)) from by
    have := sub_reads (c := c) (i := E + 4) (v := n - (E + 4)) HR2.out (by omega) hc.1
    rw [List.take_of_length_le (by rw [List.length_drop]; omega)] at this
    rw [List.length_drop, HLB]; exact this)
  have HRD := Lib.hid (show Rb w (sA (some ad) c 6) ((b.take E).drop 6).length ((b.take E).drop 6) from by
    have := sub_reads (c := c) (i := 6) (v := E - 6) HR2.out (by omega) hc.1
    rw [List.drop_take, show (List.take (E - 6) (List.drop 6 b)).length = E - 6 from by rw [List.length_take, List.length_drop]; omega]
    exact this)
  have SLE : ∀ W, (Instr.slice 22 (.slice (some ad) n c) none (some (.int .i64 (E : Int))) none).run Try.prog W = .ok (.slice (sA (some ad) c 0) E c) W := fun W => sl5_h (some ad) n c E rfl (by omega) W
  have hLE : (b.take E).length = E := by rw [List.length_take]; omega
  have hnx := Lib.hid (show nxtV true E 0 (b.take E) = nxt 0 (b.take E) from by simp [nxtV]; omega)
  have hne := Lib.hid (show nxtE true E = 0 from by simp [nxtE]; omega)
  have hr0l : (b.drop (E + 4)).length = n - (E + 4) := by rw [List.length_drop]; omega
  have hd0l : ((b.take E).drop 6).length = 13 * k := by rw [List.length_drop, hLE]; omega
  obtain ⟨r0, hr0⟩ : ∃ r0, b.drop (E + 4) = r0 := ⟨_, rfl⟩
  obtain ⟨d0, hd0⟩ : ∃ d0, (b.take E).drop 6 = d0 := ⟨_, rfl⟩
  obtain ⟨be, hbe⟩ : ∃ be, b.take E = be := ⟨_, rfl⟩
  obtain ⟨bx, hbx⟩ : ∃ bx, b.drop E = bx := ⟨_, rfl⟩
  rw [hr0] at HBD HRR hr0l
  rw [hd0] at HBD HRD hd0l
  rw [hbe] at HBD HRE hnx
  rw [hbx] at HBD HRX
  have hcs := nxt_lt be
  obtain ⟨cs, hcse⟩ : ∃ cs, nxt 0 be = cs := ⟨_, rfl⟩
  rw [hcse] at hcs hnx HBD
  clear hr0 hd0 hbe hbx hcse HE HEK hEI hE c4 c5 hLE HLB e0
  refine nop_wp (exb_start w.heap.size (by kernel_rfl) calm_nop (fun hQ => ?_))
  replace hT0 : Blk W9.drew g 58 (arr .u32 256 el) := hT0.drew
  replace hB9 : Below w.heap.size w W9.drew := hB9.drew
  generalize W9.drew = x at *
  have hx := hB9.size
  have RE := HRE.out.mv hB9
  refine ext_take (i := 1) (oi := ?oir1) (v := ?vr1) ?hir1 (by kernel_rfl) (by kernel_rfl) (by kernel_rfl) hQ ?hwr1 ?hyr1 ?restr1
  case hir1 => simp only [List.getElem?_toArray, List.getElem?_cons_zero, List.getElem?_cons_succ]; rfl
  case hwr1 => rfl
  case hyr1 => intro W hW; go_simp; with_reducible rfl
  simp only [Act.put, List.setIfInBounds_toArray, List.set_cons_zero, List.set_cons_succ]
  refine ext_take (i := 2) (oi := ?oir2) (v := ?vr2) ?hir2 (by kernel_rfl) (by kernel_rfl) (by kernel_rfl) hQ ?hwr2 ?hyr2 ?restr2
  case hir2 => simp only [List.getElem?_toArray, List.getElem?_cons_zero, List.getElem?_cons_succ]; rfl
  case hwr2 => rfl
  case hyr2 => intro W hW; go_simp; with_reducible rfl
  simp only [Act.put, List.setIfInBounds_toArray, List.set_cons_zero, List.set_cons_succ]
  refine ext_take (i := 3) (oi := ?oir3) (v := ?vr3) ?hir3 (by kernel_rfl) (by kernel_rfl) (by kernel_rfl) hQ ?hwr3 ?hyr3 ?restr3
  case hir3 => simp only [List.getElem?_toArray, List.getElem?_cons_zero, List.getElem?_cons_succ]; rfl
  case hwr3 => rfl
  case hyr3 => intro W hW; go_simp; with_reducible rfl
  simp only [Act.put, List.setIfInBounds_toArray, List.set_cons_zero, List.set_cons_succ]
  refine exb_step (i := 0) (oi := ?oir0) (by kernel_rfl) ?hir0 ?hwr0 (fun K hK => ?_)
  case hir0 => simp only [List.getElem?_toArray, List.getElem?_cons_zero]; rfl
  case hwr0 => rfl
  refine wp_load_row 58 (.tmp 6) rfl g rfl _ _ (0, 0) _ hT0 Try.underlying58 rfl (tab_sized _) ?_; refine hK _ _ _ (Nat.le_refl _) (Below.refl _ _) ?_
  try simp only [Act.put, List.setIfInBounds_toArray, List.set_cons_zero, List.set_cons_succ]
  refine exb_step (i := 4) (oi := ?oir4) (by kernel_rfl) ?hir4 ?hwr4 (fun K hK => ?_)
  case hir4 => simp only [List.getElem?_toArray, List.getElem?_cons_zero, List.getElem?_cons_succ]; rfl
  case hwr4 => rfl
  go_simp
  refine (sum_all el true (eqn_refl _ _) (sA (some ad) c 0) E c be _ RE (by omega)).mono ?_; rintro e wa ⟨rfl, ba⟩; rw [hnx.out, hne.out]; have hTa := hT0.below ba hT0.lt; have hBa := hB9.trans (ba.mono hx); refine hK _ _ _ (Nat.le_refl _) (ba.mono hx) ?_
  try simp only [Act.put, List.setIfInBounds_toArray, List.set_cons_zero, List.set_cons_succ]
  refine ext_take (i := 5) (oi := ?oir5) (v := ?vr5) ?hir5 (by kernel_rfl) (by kernel_rfl) (by kernel_rfl) hQ ?hwr5 ?hyr5 ?restr5
  case hir5 => simp only [List.getElem?_toArray, List.getElem?_cons_zero, List.getElem?_cons_succ]; rfl
  case hwr5 => rfl
  case hyr5 => intro W hW; go_simp; with_reducible rfl
  simp only [Act.put, List.setIfInBounds_toArray, List.set_cons_zero, List.set_cons_succ]
  refine ext_take (i := 6) (oi := ?oir6) (v := ?vr6) ?hir6 (by kernel_rfl) (by kernel_rfl) (by kernel_rfl) hQ ?hwr6 ?hyr6 ?restr6
  case hir6 => simp only [List.getElem?_toArray, List.getElem?_cons_zero, List.getElem?_cons_succ]; rfl
  case hwr6 => rfl
  case hyr6 => intro W hW; go_simp; with_reducible rfl
  simp only [Act.put, List.setIfInBounds_toArray, List.set_cons_zero, List.set_cons_succ]
  refine ext_take (i := 7) (oi := ?oir7) (v := ?vr7) ?hir7 (by kernel_rfl) (by kernel_rfl) (by kernel_rfl) hQ ?hwr7 ?hyr7 ?restr7
  case hir7 => simp only [List.getElem?_toArray, List.getElem?_cons_zero, List.getElem?_cons_succ]; rfl
  case hwr7 => rfl
  case hyr7 => intro W hW; go_simp; with_reducible rfl
  simp only [Act.put, List.setIfInBounds_toArray, List.set_cons_zero, List.set_cons_succ]
  refine ext_take (i := 8) (oi := ?oir8) (v := ?vr8) ?hir8 (by kernel_rfl) (by kernel_rfl) (by kernel_rfl) hQ ?hwr8 ?hyr8 ?restr8
  case hir8 => simp only [List.getElem?_toArray, List.getElem?_cons_zero, List.getElem?_cons_succ]; rfl
  case hwr8 => rfl
  case hyr8 => intro W hW; go_simp; with_reducible rfl
  simp only [Act.put, List.setIfInBounds_toArray, List.set_cons_zero, List.set_cons_succ]
  refine ext_take (i := 9) (oi := ?oir9) (v := ?vr9) ?hir9 (by kernel_rfl) (by kernel_rfl) (by kernel_rfl) hQ ?hwr9 ?hyr9 ?restr9
  case hir9 => simp only [List.getElem?_toArray, List.getElem?_cons_zero, List.getElem?_cons_succ]; rfl
  case hwr9 => rfl
  case hyr9 => intro W hW; go_simp; with_reducible rfl
  simp only [Act.put, List.setIfInBounds_toArray, List.set_cons_zero, List.set_cons_succ]
  refine wpAnyH_done (by kernel_rfl) ?_ _
  simp only [NoP]
  clear RE SLE
  have SLX : ∀ W, (Instr.slice 22 (.slice (some ad) n c) (some (.int .i64 (E : Int))) none none).run Try.prog W = .ok (.slice (sA (some ad) c E) (n - E) (c - E)) W := fun W => sl5_l (some ad) n c E rfl (by omega) W
  go_wp2_with fail
  refine (number25_any _ _ _ bx _ (HRX.out.mv hBa) (by omega)).mono ?_
  rintro e wb ⟨rfl, bb⟩
  have hTb := hTa.below bb hTa.lt
  have hBb := hBa.trans (bb.mono hBa.size)
  have hq0 := num4_lt bx
  obtain ⟨q0, hq⟩ : ∃ q0, num4 bx = q0 := ⟨_, rfl⟩
  rw [hq] at hq0 HBD ⊢
  have wcs : IntKind.u64.wrap (cs : Int) = (cs : Int) := by rw [IntKind.wrap_u64]; omega
  clear hq hTa hBa bb SLX hT0 hB9
  by_cases c6 : q0 = cs
  rotate_left
  · have HE := Lib.hid (show redS b = ([], 22) from by rw [HBD.out, if_pos c6])
    have e1 : ((q0 : Int) != (cs : Int)) = true := by rw [bne_iff_ne]; omega
    go_wp2_with fail
    go_ret2
    exact ⟨none, 0, by rw [HE.out]; rfl, by rw [HE.out]; exact OwR.nil _ _, hBb⟩
  have HE := Lib.hid (show redS b = endS (rdD k (E + 4) d0 r0 [] []) from by rw [HBD.out, if_neg (by simpa using c6)])
  subst c6
  have e1 : ((q0 : Int) != (q0 : Int)) = false := by simp
  have SL1 : ∀ W, (Instr.slice 22 (.slice (some ad) n c) (some (.int .i64 ((E : Int) + 4))) none none).run Try.prog W = .ok (.slice (sA (some ad) c (E + 4)) r0.length (c - (E + 4))) W := fun W => by
    rw [hr0l]; exact sl5_l (some ad) n c (E + 4) (by omega) (by omega) W
  have SL2 : ∀ W, (Instr.slice 22 (.slice (some ad) n c) (some (.int .i64 6)) (some (.int .i64 (E : Int))) none).run Try.prog W = .ok (.slice (sA (some ad) c 6) d0.length (c - 6)) W := fun W => by
    rw [hd0l, hk13]; exact sl5_lh (some ad) n c 6 (E - 6) rfl (by omega) (by omega) W
  have hc1 : r0.length ≤ c - (E + 4) ∧ c - (E + 4) ≤ 9223372036854775807 := by omega
  have hc2 : d0.length ≤ c - 6 ∧ c - 6 ≤ 9223372036854775807 := by omega
  have HAT0 := Lib.hid (show E + 4 + r0.length = n from by omega)
  have HD0L := Lib.hid hd0l
  clear hd0l hr0l hk13
  go_wp2_with fail
  go_loopw [9, 10, 11, 12] (fun v9 v10 v11 v12 wr => ∃ (j : Nat) (L1 : List (Nat × List UInt8)) (S1 : List Nat) (dl rl : List UInt8) (Al As Ad Ar : Option Addr) (cl cs_ cd cr at_ : Nat), j ≤ k ∧ v9 = .slice Al j cl ∧ OwR wr w.heap.size Al j cl L1 ∧ v10 = .slice As j cs_ ∧ wr.ownsRow w.heap.size 62 1 (.slice As j cs_) j (S1.map vU) ∧
    v11 = .slice Ar rl.length cr ∧ (rl.length ≤ cr ∧ cr ≤ 9223372036854775807) ∧ Rb w Ar rl.length rl ∧ v12 = .slice Ad dl.length cd ∧ (dl.length ≤ cd ∧ cd ≤ 9223372036854775807) ∧ Rb w Ad dl.length dl ∧ dl.length = 13 * (k - j) ∧ at_ + rl.length = n ∧ rdD k (E + 4) d0 r0 [] [] = rdD (k - j) at_ dl rl L1 S1 ∧ Blk wr g 58 (arr .u32 256 el) ∧ Below w.heap.size w wr ∧ ∀ p ∈ L1, p.2.length ≤ 200000) (fun _ _ _ d _ => lenV d)
  case atStart => exact ⟨0, [], [], d0, r0, none, none, _, _, 0, 0, _, _, E + 4, by omega, rfl, OwR.nil _ _, rfl, World.ownsRow_nil _ _ _ _, rfl, hc1, HRR.out, rfl, hc2, HRD.out, HD0L.out, HAT0.out, rfl, hTb, hBb, fun p hp => by simp at hp⟩
  case round =>
    clear hTb hBb hc1 hc2 SL1 SL2
    obtain ⟨j, L1, S1, dl, rl, Al, As, Ad, Ar, cl, cs_, cd, cr, at_, hj, rfl, hw, rfl, hS, rfl, hcr, hrl, rfl, hcd, hdl, hdll, hat, hrd, hT, hB, hbn⟩ := hrel
    have HBN := Lib.hid hbn
    clear hbn
    by_cases hjk : j < k
    · have hd13 : 13 ≤ dl.length := by omega
      obtain ⟨add, hAd, habd, hcelld⟩ := hdl.2 (by omega)
      obtain ⟨y0, hy0⟩ : ∃ y0, dl[0]? = some y0 := ⟨_, List.getElem?_eq_getElem (by omega)⟩
      have hcd0 := hcelld 0 (b8 y0) (by rw [List.getElem?_map, hy0]; rfl)
      rw [add_zero5] at hcd0
      have HY := Lib.hid (show dl.getD 0 0 = y0 from by rw [List.getD_eq_getElem?_getD, hy0]; rfl)
      have hy256 := y0.toNat_lt
      obtain ⟨y, hy_⟩ : ∃ y, y0.toNat = y := ⟨_, rfl⟩
      have hcd1 : w.cell? add = some (.int .u8 (y : Int)) := by rw [hcd0, b8, hy_]
      have HYY := Lib.hid hy_
      have hy : y < 256 := by omega
      subst hAd
      have HS5 := Lib.hid (show ∀ i, i ≤ dl.length → Rb w (sA (some add) cd i) (dl.length - i) (dl.drop i) from fun i hi => by
        have := sub_reads (c := cd) (i := i) (v := dl.length - i) hdl (by omega) hcd.1
        rwa [List.take_of_length_le (by rw [List.length_drop]; omega)] at this)
      have T1 : ∀ W, (Instr.slice 22 (.slice (some add) dl.length cd) (some (.int .i64 1)) none none).run Try.prog W = .ok (.slice (sA (some add) cd 1) (dl.length - 1) (cd - 1)) W := fun W => sl5_l (some add) dl.length cd 1 rfl (by omega) W
      have T5 : ∀ W, (Instr.slice 22 (.slice (some add) dl.length cd) (some (.int .i64 5)) none none).run Try.prog W = .ok (.slice (sA (some add) cd 5) (dl.length - 5) (cd - 5)) W := fun W => sl5_l (some add) dl.length cd 5 rfl (by omega) W
      have T9 : ∀ W, (Instr.slice 22 (.slice (some add) dl.length cd) (some (.int .i64 9)) none none).run Try.prog W = .ok (.slice (sA (some add) cd 9) (dl.length - 9) (cd - 9)) W := fun W => sl5_l (some add) dl.length cd 9 rfl (by omega) W
      have T13 : ∀ W, (Instr.slice 22 (.slice (some add) dl.length cd) (some (.int .i64 13)) none none).run Try.prog W = .ok (.slice (sA (some add) cd 13) (dl.drop 13).length (cd - 13)) W := fun W => by
        rw [List.length_drop]; exact sl5_l (some add) dl.length cd 13 rfl (by omega) W
      have HD13 := Lib.hid (show (dl.drop 13).length = dl.length - 13 from List.length_drop)
      have HDL := Lib.hid hdl
      have HRL := Lib.hid hrl
      have HRDD := Lib.hid hrd
      have HDLL := Lib.hid hdll
      clear hdl hrl hrd hcelld hcd0 hy0 hy_ hdll
      go_wp2_with fail
      refine (number25_any _ _ _ (dl.drop 5) _ ((HS5.out 5 (by omega)).mv hB) (by omega)).mono ?_
      rintro e w1 ⟨rfl, b1⟩
      replace hw := hw.call b1
      replace hS := own_call hS b1
      replace hT := hT.below b1 hT.lt
      replace hB := hB.trans (b1.mono hB.size)
      clear b1
      have hs0 := num4_lt (dl.drop 5)
      obtain ⟨sz, hsz⟩ : ∃ sz, num4 (dl.drop 5) = sz := ⟨_, rfl⟩
      rw [hsz] at hs0 ⊢
      have HSZ := Lib.hid hsz
      clear hsz
      go_wp2_with fail
      refine (number25_any _ _ _ (dl.drop 1) _ ((HS5.out 1 (by omega)).mv hB) (by omega)).mono ?_
      rintro e w2 ⟨rfl, b2⟩
      replace hw := hw.call b2
      replace hS := own_call hS b2
      replace hT := hT.below b2 hT.lt
      replace hB := hB.trans (b2.mono hB.size)
      clear b2
      have hs1 := num4_lt (dl.drop 1)
      obtain ⟨q1, hq1⟩ : ∃ q1, num4 (dl.drop 1) = q1 := ⟨_, rfl⟩
      rw [hq1] at hs1 ⊢
      have HQ1 := Lib.hid hq1
      clear hq1
      have wat : IntKind.u64.wrap ((n : Int) - (rl.length : Int)) = (at_ : Int) := by rw [IntKind.wrap_u64]; omega
      have wrl : IntKind.u64.wrap (rl.length : Int) = (rl.length : Int) := by rw [IntKind.wrap_u64]; omega
      by_cases hqa : q1 = at_
      rotate_left
      · have HE2 := Lib.hid (show redS b = ([], 12) from by rw [HE.out, HRDD.out, show k - j = (k - j - 1) + 1 from by omega, rdD_no (.inl (by rw [HQ1.out]; exact hqa))]; rfl)
        have f1 : ((q1 : Int) != (at_ : Int)) = true := by rw [bne_iff_ne]; omega
        go_wp2_with fail
        go_ret2
        exact ⟨none, 0, by rw [HE2.out]; rfl, by rw [HE2.out]; exact OwR.nil _ _, hB⟩
      subst hqa
      have f1 : ((q1 : Int) != (q1 : Int)) = false := by simp
      by_cases hsr : rl.length < sz
      · have HE2 := Lib.hid (show redS b = ([], 12) from by rw [HE.out, HRDD.out, show k - j = (k - j - 1) + 1 from by omega, rdD_no (.inr (by rw [HSZ.out]; exact hsr))]; rfl)
        have f2 : decide ((sz : Int) > (rl.length : Int)) = true := by simp; omega
        go_wp2_with fail
        go_ret2
        exact ⟨none, 0, by rw [HE2.out]; rfl, by rw [HE2.out]; exact OwR.nil _ _, hB⟩
      have f2 : decide ((sz : Int) > (rl.length : Int)) = false := by simp; omega
      have HNX := Lib.hid (show rdD k (E + 4) d0 r0 [] [] = rdD (k - (j + 1)) (q1 + sz) (dl.drop 13) (rl.drop sz) (L1 ++ [(y, rl.take sz)]) (S1 ++ [num4 (dl.drop 9)]) from by
        rw [HRDD.out, show k - j = (k - (j + 1)) + 1 from by omega, rdD_yes (by rw [HQ1.out, HSZ.out]; omega), HSZ.out, HY.out, HYY.out])
      obtain ⟨l, hl⟩ : ∃ l, rl.take sz = l := ⟨_, rfl⟩
      have hll : l.length = sz := by rw [← hl, List.length_take]; omega
      have HRT := Lib.hid (show Rb w (sA Ar cr 0) sz l from by
        have := sub_reads (c := cr) (i := 0) (v := sz) HRL.out (by omega) hcr.1
        rw [← hl]
        simpa using this)
      rw [hl] at HNX
      clear hl
      have U1 : ∀ W, (Instr.slice 22 (.slice Ar rl.length cr) none (some (.int .u64 (sz : Int))) none).run Try.prog W = .ok (.slice (sA Ar cr 0) sz cr) W := fun W => sl5_h Ar rl.length cr sz rfl (by omega) W
      have U2 : ∀ W, (Instr.slice 22 (.slice Ar rl.length cr) (some (.int .u64 (sz : Int))) none none).run Try.prog W = .ok (.slice (sA Ar cr sz) (rl.drop sz).length (cr - sz)) W := fun W => by
        rw [List.length_drop]; exact sl5_l Ar rl.length cr sz rfl (by omega) W
      have HRSL := Lib.hid (show (rl.drop sz).length = rl.length - sz from List.length_drop)
      have HR2' := Lib.hid (show Rb w (sA Ar cr sz) (rl.drop sz).length (rl.drop sz) from by
        have := sub_reads (c := cr) (i := sz) (v := rl.length - sz) HRL.out (by omega) hcr.1
        rwa [List.take_of_length_le (by rw [List.length_drop]; omega), ← List.length_drop] at this)
      have hll2 : l.length ≤ rl.length := by omega
      subst hll
      go_wp2_with fail
      refine nop_wp (exb_start w.heap.size (by kernel_rfl) calm_nop (fun hQ => ?_))
      replace hw := hw.call (Ext.refl w2).draw
      replace hS : w2.drew.ownsRow w.heap.size 62 1 (.slice As j cs_) j (S1.map vU) := own_drew_ hS
      replace hT : Blk w2.drew g 58 (arr .u32 256 el) := hT.drew
      replace hB : Below w.heap.size w w2.drew := hB.drew
      generalize w2.drew = x at *
      have hx := hB.size
      have i0 : (0 : Int) < (dl.length : Int) := by omega
      have X0 : ∀ W, ExB w.heap.size x W → W.cell? add = some (.int .u8 (y : Int)) := fun W h => (h.cell habd).trans ((hB.cell habd).trans hcd1)
      have RX := HRT.out.mv hB
      refine ext_take (i := 0) (oi := ?ois0) (v := ?vs0) ?his0 (by kernel_rfl) (by kernel_rfl) (by kernel_rfl) hQ ?hws0 ?hys0 ?rests0
      case his0 => simp only [List.getElem?_toArray, List.getElem?_cons_zero]; rfl
      case hws0 => rfl
      case hys0 => intro W hW; go_simp; with_reducible rfl
      simp only [Act.put, List.setIfInBounds_toArray, List.set_cons_zero, List.set_cons_succ]
      refine ext_take (i := 1) (oi := ?ois1) (v := ?vs1) ?his1 (by kernel_rfl) (by kernel_rfl) (by kernel_rfl) hQ ?hws1 ?hys1 ?rests1
      case his1 => simp only [List.getElem?_toArray, List.getElem?_cons_zero, List.getElem?_cons_succ]; rfl
      case hws1 => rfl
      case hys1 => intro W hW; go_simp; with_reducible rfl
      simp only [Act.put, List.setIfInBounds_toArray, List.set_cons_zero, List.set_cons_succ]
      refine ext_take (i := 2) (oi := ?ois2) (v := ?vs2) ?his2 (by kernel_rfl) (by kernel_rfl) (by kernel_rfl) hQ ?hws2 ?hys2 ?rests2
      case his2 => simp only [List.getElem?_toArray, List.getElem?_cons_zero, List.getElem?_cons_succ]; rfl
      case hws2 => rfl
      case hys2 => intro W hW; go_simp; with_reducible rfl
      simp only [Act.put, List.setIfInBounds_toArray, List.set_cons_zero, List.set_cons_succ]
      refine ext_take (i := 3) (oi := ?ois3) (v := ?vs3) ?his3 (by kernel_rfl) (by kernel_rfl) (by kernel_rfl) hQ ?hws3 ?hys3 ?rests3
      case his3 => simp only [List.getElem?_toArray, List.getElem?_cons_zero, List.getElem?_cons_succ]; rfl
      case hws3 => rfl
      case hys3 => intro W hW; go_simp; with_reducible rfl
      simp only [Act.put, List.setIfInBounds_toArray, List.set_cons_zero, List.set_cons_succ]
      refine ext_take (i := 4) (oi := ?ois4) (v := ?vs4) ?his4 (by kernel_rfl) (by kernel_rfl) (by kernel_rfl) hQ ?hws4 ?hys4 ?rests4
      case his4 => simp only [List.getElem?_toArray, List.getElem?_cons_zero, List.getElem?_cons_succ]; rfl
      case hws4 => rfl
      case hys4 => intro W hW; go_simp; with_reducible rfl
      simp only [Act.put, List.setIfInBounds_toArray, List.set_cons_zero, List.set_cons_succ]
      refine ext_take (i := 5) (oi := ?ois5) (v := ?vs5) ?his5 (by kernel_rfl) (by kernel_rfl) (by kernel_rfl) hQ ?hws5 ?hys5 ?rests5
      case his5 => simp only [List.getElem?_toArray, List.getElem?_cons_zero, List.getElem?_cons_succ]; rfl
      case hws5 => rfl
      case hys5 => intro W hW; go_simp; with_reducible rfl
      simp only [Act.put, List.setIfInBounds_toArray, List.set_cons_zero, List.set_cons_succ]
      refine ext_take (i := 6) (oi := ?ois6) (v := ?vs6) ?his6 (by kernel_rfl) (by kernel_rfl) (by kernel_rfl) hQ ?hws6 ?hys6 ?rests6
      case his6 => simp only [List.getElem?_toArray, List.getElem?_cons_zero, List.getElem?_cons_succ]; rfl
      case hws6 => rfl
      case hys6 => intro W hW; go_simp; with_reducible rfl
      simp only [Act.put, List.setIfInBounds_toArray, List.set_cons_zero, List.set_cons_succ]
      refine exb_step (i := 7) (oi := ?ois7) (by kernel_rfl) ?his7 ?hws7 (fun K hK => ?_)
      case his7 => simp only [List.getElem?_toArray, List.getElem?_cons_zero, List.getElem?_cons_succ]; rfl
      case hws7 => rfl
      go_simp
      refine (clone_any (sA Ar cr 0) l.length cr l x RX (by omega)).mono ?_; rintro e w6 ⟨A6, c6, rfl, o6, b6⟩; refine hK _ _ _ (Nat.le_refl _) (b6.mono hx) ?_; have hB6 := hB.trans (b6.mono hx); have hw6 := hw.call b6; have o6 := own_low o6 hx; have hS6 := own_call hS b6; have hT6 := hT.below b6 hT.lt
      try simp only [Act.put, List.setIfInBounds_toArray, List.set_cons_zero, List.set_cons_succ]
      refine ext_take (i := 8) (oi := ?ois8) (v := ?vs8) ?his8 (by kernel_rfl) (by kernel_rfl) (by kernel_rfl) hQ ?hws8 ?hys8 ?rests8
      case his8 => simp only [List.getElem?_toArray, List.getElem?_cons_zero, List.getElem?_cons_succ]; rfl
      case hws8 => rfl
      case hys8 => intro W hW; go_simp; with_reducible rfl
      simp only [Act.put, List.setIfInBounds_toArray, List.set_cons_zero, List.set_cons_succ]
      refine exb_step (i := 9) (oi := ?ois9) (by kernel_rfl) ?his9 ?hws9 (fun K hK => ?_)
      case his9 => simp only [List.getElem?_toArray, List.getElem?_cons_zero, List.getElem?_cons_succ]; rfl
      case hws9 => rfl
      go_simp
      have b7 := Ext.al w6 (.cells #[.int .u8 (y : Int), .slice A6 l.length c6] 32); have R7 := reads_two w6 (.int .u8 (y : Int)) (.slice A6 l.length c6) 32; have hw7 := hw6.call b7; have o7 := own_call o6 b7; have hS7 := own_call hS6 b7; have hT7 := hT6.below b7 hT6.lt; have hB7 := hB6.trans (Below.mono b7 hB6.size); refine hK _ _ _ (Nat.le_refl _) (Below.mono b7 hB6.size) ?_; generalize w6.heap.size = g7 at *; generalize w6.alloc (.cells #[.int .u8 (y : Int), .slice A6 l.length c6] 32) = w7 at *; obtain ⟨k1, vs, k2, k3, k4, k5⟩ := hw7
      try simp only [Act.put, List.setIfInBounds_toArray, List.set_cons_zero, List.set_cons_succ]
      refine exb_step (i := 10) (oi := ?ois10) (by kernel_rfl) ?his10 ?hws10 (fun K hK => ?_)
      case his10 => simp only [List.getElem?_toArray, List.getElem?_cons_zero, List.getElem?_cons_succ]; rfl
      case hws10 => rfl
      (refine wp_app (.tmp 100) (.tmp 109) _ (by rfl) slSC w.heap.size _ j vs.flatten (by rfl) k4 _ _ 1 _ [.int .u8 (y : Int), .slice A6 l.length c6] (by rfl) R7 (by simp [Value.oneCell']) (by omega) hB7.size ?_; intro A8 c8 w8 o8 hg8 b8_ hc8; have hw8 := OwR.snoc (p := (y, l)) k1 k2 k3 k4 k5 o7 hy o8 hg8; have hS8 := own_grow hS7 k4 (by decide) hg8; have hT8 := hT7.grown hg8 (fun e_ => own_blk_ne k4 hT7 (by decide) e_.symm); refine hK _ _ _ (Nat.le_refl _) b8_ ?_; have hB8 := hB7.trans b8_)
      try simp only [Act.put, List.setIfInBounds_toArray, List.set_cons_zero, List.set_cons_succ]
      refine ext_take (i := 11) (oi := ?ois11) (v := ?vs11) ?his11 (by kernel_rfl) (by kernel_rfl) (by kernel_rfl) hQ ?hws11 ?hys11 ?rests11
      case his11 => simp only [List.getElem?_toArray, List.getElem?_cons_zero, List.getElem?_cons_succ]; rfl
      case hws11 => rfl
      case hys11 => intro W hW; go_simp; with_reducible rfl
      simp only [Act.put, List.setIfInBounds_toArray, List.set_cons_zero, List.set_cons_succ]
      refine wpAnyH_done (by kernel_rfl) ?_ _

      simp only [NoP]
      clear X0 RX
      clear o8 hg8 k5 k4 k3 k2 k1 vs R7 o7 o6 hS6 hS7 hT6 hT7 hw6 hB6 hB7 b6 b7 b8_
      go_wp2_with fail
      refine (number25_any _ _ _ (dl.drop 9) _ ((HS5.out 9 (by omega)).mv hB8) (by omega)).mono ?_
      rintro e w9 ⟨rfl, b9⟩
      have hs9 := num4_lt (dl.drop 9)
      obtain ⟨q9, hq9⟩ : ∃ q9, num4 (dl.drop 9) = q9 := ⟨_, rfl⟩
      rw [hq9] at hs9 HNX ⊢
      clear hq9
      have hw9 := hw8.call b9
      have hS9 := own_alloc_ (own_call hS8 b9) (.cells #[.int .u64 (q9 : Int)] 62)
      have hT9 := (hT8.below b9 hT8.lt).alloc (.cells #[.int .u64 (q9 : Int)] 62)
      have hB9 := hB8.trans (b9.mono hB8.size)
      have hB9a := hB9.alloc hB9.size (.cells #[.int .u64 (q9 : Int)] 62)
      clear b9
      go_wp2_with (at_builtin; refine wpList_app rfl (.tmp 111) (.tmp 115) _ rfl slU w.heap.size (.slice As j cs_) j (S1.map vU) (by rfl) hS9 _ _ 1 1 [.int .u64 (q9 : Int)] rfl (reads_one w9 _ _) (by simp [Value.oneCell']) (by omega) hB9a.size ?_; intro Aa ca wa oa hga ba hca)
      have hwa := (hw9.call (Ext.al w9 (.cells #[.int .u64 (q9 : Int)] 62))).grown hS9 (by decide) (by decide) hga
      have hTa := hT9.grown hga (fun e_ => own_blk_ne hS9 hT9 (by decide) e_.symm)
      have hBa := hB9a.trans ba
      go_roundw
      case rel => exact ⟨j + 1, L1 ++ [(y, l)], S1 ++ [q9], dl.drop 13, rl.drop l.length, A8, Aa, sA (some add) cd 13, sA Ar cr l.length, c8, ca, cd - 13, cr - l.length, q1 + l.length, by omega, rfl, hwa, rfl, by rw [List.map_append]; exact oa, by first | rfl | rw [HRSL.out], by rw [HRSL.out]; omega, HR2'.out, by first | rfl | rw [HD13.out], by rw [HD13.out]; omega, by rw [HD13.out]; exact HS5.out 13 (by omega), by rw [HD13.out, HDLL.out]; omega, by rw [HRSL.out]; omega, HNX.out, hTa, hBa, fun p hp => by rcases List.mem_append.1 hp with h | h; exact HBN.out p h; (simp at h; subst h; show l.length ≤ 200000; omega)⟩
      case measure => simp [lenV]; omega
    · obtain rfl : j = k := by omega
      have hdl0 : dl.length = 0 := by omega
      have HLL := Lib.hid hw.1
      have HFIN := Lib.hid (show redS b = endS (some (L1, S1, rl)) from by rw [HE.out, hrd, Nat.sub_self, rdD])
      clear hrd hdll hdl
      go_wp2_with fail
      refine (ordered25_any Al j cl L1 _ hw.rd (by omega)).mono ?_
      rintro e w1 ⟨rfl, b1⟩
      replace hw := hw.call b1
      replace hS := own_call hS b1
      replace hT := hT.below b1 hT.lt
      replace hB := hB.trans (b1.mono hB.size)
      clear b1
      cases ho : ordB 0 L1
      · have HE2 := Lib.hid (show redS b = ([], 12) from by rw [HFIN.out, endS, if_pos (.inl ho)])
        go_wp2_with fail
        go_ret2
        exact ⟨none, 0, by rw [HE2.out]; rfl, by rw [HE2.out]; exact OwR.nil _ _, hB⟩
      have HO := Lib.hid ho
      clear ho
      by_cases hr0' : rl = []
      rotate_left
      · have HE2 := Lib.hid (show redS b = ([], 12) from by rw [HFIN.out, endS, if_pos (.inr hr0')])
        have hpos : 0 < rl.length := List.length_pos_iff.2 hr0'
        have f3 : decide ((rl.length : Int) > 0) = true := by simp; omega
        go_wp2_with fail
        go_ret2
        exact ⟨none, 0, by rw [HE2.out]; rfl, by rw [HE2.out]; exact OwR.nil _ _, hB⟩
      have HF2 := Lib.hid (show redS b = if L1.map (fun p => nxt 0 p.2) = S1 then (L1, 0) else ([], 22) from by rw [HFIN.out, endS, if_neg (by rw [HO.out]; simp [hr0'])])
      subst hr0'
      have HS1 := Lib.hid (show S1.length = j from by have := hS.1; simpa using this)
      go_wp2_with fail
      go_loopw [130] (fun i wr => ∃ t : Nat, t ≤ j ∧ i = .int .i64 (t : Int) ∧ OwR wr w.heap.size Al j cl L1 ∧ wr.ownsRow w.heap.size 62 1 (.slice As j cs_) j (S1.map vU) ∧ (L1.map (fun p => nxt 0 p.2)).take t = S1.take t ∧ Blk wr g 58 (arr .u32 256 el) ∧ Below w.heap.size w wr) (fun i _ => j - (intOf i).toNat)
      case atStart => exact ⟨0, by omega, rfl, hw, hS, rfl, hT, hB⟩
      case round =>
        clear hw hS hT hB
        obtain ⟨t, ht, rfl, hw, hS, htk, hT, hB⟩ := hrel
        have HTK := Lib.hid htk
        clear htk
        by_cases hlt : t < j
        · obtain ⟨ad2, y, l, Ai, ci, hA, hab2, hz_, c0, c1_, hci, hrl2, hb256⟩ := hw.rd.at_ hlt
          subst hA
          have hl2 := HBN.out _ (List.mem_of_getElem? hz_)
          simp only at hl2
          have HZ := Lib.hid hz_
          have hRL := Reads.al hrl2 (.cells #[.int .u8 (y : Int), .slice Ai l.length ci] 32)
          have hTq := hT.alloc (.cells #[.int .u8 (y : Int), .slice Ai l.length ci] 32)
          have hq := Blk.new wr 32 #[.int .u8 (y : Int), .slice Ai l.length ci]
          have hSq := own_alloc_ hS (.cells #[.int .u8 (y : Int), .slice Ai l.length ci] 32)
          have hBq := hB.alloc hB.size (.cells #[.int .u8 (y : Int), .slice Ai l.length ci] 32)
          have hwq := hw.call (Ext.al wr (.cells #[.int .u8 (y : Int), .slice Ai l.length ci] 32))
          have z0 : (wr.alloc (.cells #[.int .u8 (y : Int), .slice Ai l.length ci] 32)).cell? ⟨wr.heap.size, 0, none⟩ = some (.int .u8 (y : Int)) := (hq.cell 0).trans rfl
          have z1 : (wr.alloc (.cells #[.int .u8 (y : Int), .slice Ai l.length ci] 32)).cell? ⟨wr.heap.size, 1, none⟩ = some (.slice Ai l.length ci) := (hq.cell 1).trans rfl
          have hnx2 := Lib.hid (show nxtV true l.length 0 l = nxt 0 l from by simp [nxtV]; omega)
          have hne2 := Lib.hid (show nxtE true l.length = 0 from by simp [nxtE]; omega)
          clear hz_ hrl2 hq
          go_wp2_with (refine wpList_load_row rfl 58 (.tmp 6) rfl g rfl _ _ (0, 0) _ hTq Try.underlying58 rfl (tab_sized _) ?_)
          refine (sum_all el true (eqn_refl _ _) Ai l.length ci l _ hRL (by omega)).mono ?_
          rintro e w3 ⟨rfl, b3⟩
          rw [hnx2.out, hne2.out]
          have hcs2 := nxt_lt l
          obtain ⟨cs2, hcse2⟩ : ∃ cs2, nxt 0 l = cs2 := ⟨_, rfl⟩
          rw [hcse2] at hcs2 ⊢
          have HCS2 := Lib.hid hcse2
          have hw3 := hwq.call b3
          have hS3 := own_call hSq b3
          have hT3 := hTq.below b3 hTq.lt
          have hB3 := hBq.trans (b3.mono hBq.size)
          obtain ⟨ads, z, hAs, hzs, hcz⟩ := own_cell hS3 hlt
          subst hAs
          have HZS := Lib.hid hzs
          have wcs2 : IntKind.u64.wrap (cs2 : Int) = (cs2 : Int) := by rw [IntKind.wrap_u64]; omega
          clear hcse2 hzs z0 z1 hwq hSq hTq hBq b3 hRL c0 c1_ hw hS hT
          by_cases hcz2 : cs2 = z
          rotate_left
          · have HE2 := Lib.hid (show redS b = ([], 22) from by rw [HF2.out, if_neg (map_at_ne HZ.out HZS.out (by show nxt 0 l ≠ z; rw [HCS2.out]; exact hcz2))])
            have f4 : ((cs2 : Int) != (z : Int)) = true := by rw [bne_iff_ne]; omega
            go_wp2_with fail
            go_ret2
            exact ⟨none, 0, by rw [HE2.out]; rfl, by rw [HE2.out]; exact OwR.nil _ _, hB3⟩
          subst hcz2
          have f4 : ((cs2 : Int) != (cs2 : Int)) = false := by simp
          have HN2 := Lib.hid (upto_eq (by rw [List.getElem?_map, HZ.out]; rfl) HZS.out HTK.out HCS2.out)
          go_wp2_with fail
          go_roundw
          case rel => exact ⟨t + 1, by omega, by go_num, hw3, hS3, HN2.out, hT3, hB3⟩
          case measure => simp [intOf]; omega
        · obtain rfl : j = t := by omega
          have HOK := Lib.hid (show redS b = (L1, 0) from by
            have h := HTK.out
            rw [List.take_of_length_le (by rw [List.length_map, HLL.out]; omega), List.take_of_length_le (by rw [HS1.out]; omega)] at h
            rw [HF2.out, if_pos h])
          go_wp2_with fail
          go_ret2
          refine ⟨Al, cl, ?_, ?_, hB⟩
          · rw [HOK.out]; show _ = Ending.returned (.tuple #[.slice Al L1.length cl, .int .i64 0]); rw [HLL.out]; rfl
          · rw [HOK.out]; show OwR _ _ Al L1.length cl L1; rw [HLL.out]; exact hw

end Go.Proofs.Yteaaiacgebikpaa
