/- The contract of the reference's Read. Each states its conditions. -/
import Derived.Test.YteaaiacgebikpaaSec10
namespace Go.Proofs.Yteaaiacgebikpaa
open Go.RowKit Wire Crc
set_option linter.unusedVariables false

theorem num4_take {l : List UInt8} {m : Nat} (h : 4 ≤ m) : num4 (l.take m) = num4 l := by
  rw [num4, num4, List.take_take, Nat.min_eq_left h]
/-- A row of the directory, out of the whole. -/
theorem row_b {b : List UInt8} {E k j : Nat} (hE : 13 * k = E - 6) (h6 : 6 ≤ E) (hj : j < k) (hb : E + 4 ≤ b.length) :
    num4 ((((b.take E).drop 6).drop (13 * j)).drop 1) = num4 (b.drop (7 + 13 * j)) ∧ num4 ((((b.take E).drop 6).drop (13 * j)).drop 5) = num4 (b.drop (11 + 13 * j)) ∧ num4 ((((b.take E).drop 6).drop (13 * j)).drop 9) = num4 (b.drop (15 + 13 * j)) ∧
    (((b.take E).drop 6).drop (13 * j)).getD 0 0 = b.getD (6 + 13 * j) 0 ∧ (((b.take E).drop 6).drop (13 * j)).drop 13 = ((b.take E).drop 6).drop (13 * (j + 1)) := by
  have h : ∀ i, i ≤ 9 → num4 ((((b.take E).drop 6).drop (13 * j)).drop i) = num4 (b.drop (6 + i + 13 * j)) := fun i hi => by
    rw [List.drop_drop, List.drop_drop, List.drop_take, num4_take (by omega)]
    congr 2
    omega
  refine ⟨h 1 (by omega), h 5 (by omega), h 9 (by omega), ?_, ?_⟩
  · rw [List.getD_eq_getElem?_getD, List.getD_eq_getElem?_getD, List.drop_drop, List.getElem?_drop, List.getElem?_take, if_pos (by omega)]
    congr 2
  · rw [List.drop_drop]; congr 1
theorem sub_row {b : List UInt8} {i : Nat} (m : Nat) (h : m ≤ 9) : num4 (((b.drop i).take 13).drop m) = num4 (b.drop (i + m)) := by
  rw [List.drop_take, num4_take (by omega), List.drop_drop]

set_option maxRecDepth 100000 in
set_option maxHeartbeats 6400000 in
theorem rread25_any (A : Option Addr) (n0 c : Nat) (b : List UInt8) (w : World) (hr : Rb w A n0 b) (hc : n0 ≤ c ∧ c ≤ 9223372036854775807) :
    Calls Try.prog 11 #[.slice A n0 c] w fun e w' => ∃ A' c', e = .returned (.tuple #[.slice A' (redS b).1.length c', .int .i64 (redS b).2]) ∧ OwR w' w.heap.size A' (redS b).1.length c' (redS b).1 ∧ Below w.heap.size w w' := by
  have hl := hr.len8
  subst hl
  have HR := Lib.hid hr
  have HC := Lib.hid hc
  obtain ⟨n, hn⟩ : ∃ n, b.length = n := ⟨_, rfl⟩
  have HN := Lib.hid hn
  rw [hn] at hc hr ⊢
  have hn63 : n ≤ 9223372036854775807 := by omega
  by_cases c1 : 200000 < n
  · have HE := Lib.hid (show redS b = ([], 4) from by rw [redS, if_pos (by omega)])
    clear hn
    go_enter Try.func11, Try.ntmps11
    go_wp2_with fail
    go_ret2
    exact ⟨none, 0, by rw [HE.out]; rfl, by rw [HE.out]; exact OwR.nil _ _, Below.refl _ _⟩
  by_cases c2 : n < 10
  · have HE := Lib.hid (show redS b = ([], 24) from by rw [redS, if_neg (by omega), if_pos (by omega)])
    clear hn
    go_enter Try.func11, Try.ntmps11
    go_wp2_with fail
    go_ret2
    exact ⟨none, 0, by rw [HE.out]; rfl, by rw [HE.out]; exact OwR.nil _ _, Below.refl _ _⟩
  obtain ⟨ad, hA, hab, hcell⟩ := hr.2 (by omega)
  obtain ⟨x5, hx5⟩ : ∃ x5, b[5]? = some x5 := ⟨_, List.getElem?_eq_getElem (by omega)⟩
  have h5c := hcell 5 (b8 x5) (by rw [List.getElem?_map, hx5]; rfl)
  rw [add_lit ad 5 (by omega)] at h5c
  have HG5 := Lib.hid (show b.getD 5 0 = x5 from by rw [List.getD_eq_getElem?_getD, hx5]; rfl)
  subst hA
  obtain ⟨k, hk⟩ : ∃ k, x5.toNat = k := ⟨_, rfl⟩
  have hk256 : k < 256 := by have := x5.toNat_lt; omega
  have h5c2 : w.cell? { block := ad.block, off := ad.off + 5 } = some (.int .u8 (k : Int)) := by rw [h5c, b8, hk]
  have i5 : (5 : Int) < (n : Int) := by omega
  have HK := Lib.hid hk
  have HLB := Lib.hid hn
  have HR2 := Lib.hid (show Rb w (some ad) n b from HN.out ▸ HR.out)
  have R5 : Rb w (sA (some ad) c 0) 5 (b.take 5) := by
    have := sub_reads (c := c) (i := 0) (v := 5) HR2.out (by omega) hc.1
    simpa using this
  have S5 : ∀ W, (Instr.slice 22 (.slice (some ad) n c) none (some (.int .i64 5)) none).run Try.prog W = .ok (.slice (sA (some ad) c 0) 5 c) W := fun W => sl5_h (some ad) n c 5 rfl (by omega) W
  have d1 : decide ((n : Int) > 200000) = false := by simp; omega
  have d2 : decide ((n : Int) < 10) = false := by simp; omega
  have KB := cvS25 c R5
  clear hcell hx5 h5c hk hn hr R5
  by_cases c3 : b.take 5 = [87, 82, 67, 75, 1]
  rotate_left
  · have HE := Lib.hid (show redS b = ([], 12) from by rw [redS, if_neg (by have := HLB.out; omega), if_neg (by have := HLB.out; omega), if_pos c3])
    have hst := str_ne c3
    obtain ⟨t5, ht5⟩ : ∃ t5, b.take 5 = t5 := ⟨_, rfl⟩
    rw [ht5] at c3 hst KB
    have hs1 : (t5 == [87, 82, 67, 75, 1]) = false := by rw [beq_eq_false_iff_ne]; exact c3
    have hs2 : (t5 != [87, 82, 67, 75, 1]) = true := by rw [bne_iff_ne]; exact c3
    have hs3 : decide (t5 = [87, 82, 67, 75, 1]) = false := decide_eq_false c3
    clear ht5
    go_enter Try.func11, Try.ntmps11
    go_wp2_with fail
    go_ret2
    exact ⟨none, 0, by rw [HE.out]; rfl, by rw [HE.out]; exact OwR.nil _ _, Below.refl _ _⟩
  rw [c3] at KB
  have HC3 := Lib.hid c3
  clear c3
  by_cases c4 : 7 < k
  · have HE := Lib.hid (show redS b = ([], 12) from by rw [redS, if_neg (by have := HLB.out; omega), if_neg (by have := HLB.out; omega), if_neg (by simpa using HC3.out), HG5.out, if_pos (by have := HK.out; omega)])
    go_enter Try.func11, Try.ntmps11
    go_wp2_with fail
    go_ret2
    exact ⟨none, 0, by rw [HE.out]; rfl, by rw [HE.out]; exact OwR.nil _ _, Below.refl _ _⟩
  have HE := Lib.hid (show redS b = bodS b k from by rw [redS, if_neg (by have := HLB.out; omega), if_neg (by have := HLB.out; omega), if_neg (by simpa using HC3.out), HG5.out, HK.out, if_neg (by omega)])
  have e0 : IntKind.i64.wrap (13 * (k : Int)) = ((13 * k : Nat) : Int) := by rw [IntKind.wrap_i64]; omega
  by_cases c5 : n < 10 + 13 * k
  · have HE2 := Lib.hid (show redS b = ([], 24) from by rw [HE.out, bodS, if_pos (by have := HLB.out; omega)])
    go_enter Try.func11, Try.ntmps11
    go_wp2_with fail
    go_ret2
    exact ⟨none, 0, by rw [HE2.out]; rfl, by rw [HE2.out]; exact OwR.nil _ _, Below.refl _ _⟩
  go_enter Try.func11, Try.ntmps11
  go_wp2_with fail
  obtain ⟨E, hE⟩ : ∃ E : Nat, 6 + 13 * k = E := ⟨_, rfl⟩
  obtain ⟨F, hF⟩ : ∃ F : Nat, E + 4 = F := ⟨_, rfl⟩
  have hEI : 10 + 13 * (k : Int) = (F : Int) := by omega
  rw [hEI]
  have HFE := Lib.hid hF
  have HK13 := Lib.hid (show 13 * k = E - 6 from by omega)
  have hE6 : 6 ≤ E := by omega
  have hE97 : E ≤ 97 := by omega
  have hEn : E + 4 ≤ n := by omega
  have HBD := Lib.hid (show redS b = if num4 (b.drop E) ≠ nxt 0 (b.take E) then ([], 22) else endS (rdD k F ((b.take E).drop 6) (b.drop F) [] []) from by
    rw [HE.out, bodS, if_neg (by have := HLB.out; omega), hE, show 10 + 13 * k = F from by omega])
  have HRE := Lib.hid (show Rb w (sA (some ad) c 0) E (b.take E) from by
    have := sub_reads (c := c) (i := 0) (v := E) HR2.out (by omega) hc.1
    simpa using this)
  have HRX := Lib.hid (show Rb w (sA (some ad) c E) (n - E) (b.drop E) from by
    have := sub_reads (c := c) (i := E) (v := n - E) HR2.out (by omega) hc.1
    rwa [List.take_of_length_le (by rw [List.length_drop]; have := HLB.out; omega)] at this)
  have wF4 : IntKind.i64.wrap ((F : Int) - 4) = (E : Int) := by rw [IntKind.wrap_i64]; omega
  have SLa : ∀ W, (Instr.slice 22 (.slice (some ad) n c) (some (.int .i64 (E : Int))) none none).run Try.prog W = .ok (.slice (sA (some ad) c E) (n - E) (c - E)) W := fun W => sl5_l (some ad) n c E (by omega) (by omega) W
  have SLb : ∀ W, (Instr.slice 22 (.slice (some ad) n c) none (some (.int .i64 (E : Int))) none).run Try.prog W = .ok (.slice (sA (some ad) c 0) E c) W := fun W => sl5_h (some ad) n c E (by omega) (by omega) W
  obtain ⟨be, hbe⟩ : ∃ be, b.take E = be := ⟨_, rfl⟩
  obtain ⟨bx, hbx⟩ : ∃ bx, b.drop E = bx := ⟨_, rfl⟩
  have HBE := Lib.hid hbe
  rw [hbe] at HBD HRE
  rw [hbx] at HBD HRX
  have hcs := nxt_lt be
  obtain ⟨cs, hcse⟩ : ∃ cs, nxt 0 be = cs := ⟨_, rfl⟩
  have hq0 := num4_lt bx
  obtain ⟨q0, hq⟩ : ∃ q0, num4 bx = q0 := ⟨_, rfl⟩
  have HCQ := Lib.hid (And.intro hcse hq)
  rw [hcse] at hcs
  rw [hq] at hq0
  have wcs : IntKind.u64.wrap (cs : Int) = (cs : Int) := by rw [IntKind.wrap_u64]; omega
  clear hbe hbx HE hF hEI hE c4 c5 e0 KB S5 hcse hq h5c2
  refine nop_wp (ext_start (by kernel_rfl) calm_nop (fun hQ => ?_))
  have hB9 : Below w.heap.size w w.drew := (Below.refl _ _).drew
  have RX := HRX.out.mv hB9
  have RE := HRE.out.mv hB9
  have hx := hB9.size
  obtain ⟨x, hxx⟩ : ∃ x, w.drew = x := ⟨_, rfl⟩
  rw [hxx] at hB9 RX RE hx ⊢
  clear hxx
  refine ext_take (i := 0) (oi := ?oir0) (v := ?vr0) ?hir0 (by kernel_rfl) (by kernel_rfl) (by kernel_rfl) hQ ?hwr0 ?hyr0 ?restr0
  case hir0 => simp only [List.getElem?_toArray, List.getElem?_cons_zero]; rfl
  case hwr0 => rfl
  case hyr0 => intro W hW; go_simp; with_reducible rfl
  simp only [Act.put, List.setIfInBounds_toArray, List.set_cons_zero, List.set_cons_succ]
  refine ext_take (i := 1) (oi := ?oir1) (v := ?vr1) ?hir1 (by kernel_rfl) (by kernel_rfl) (by kernel_rfl) hQ ?hwr1 ?hyr1 ?restr1
  case hir1 => simp only [List.getElem?_toArray, List.getElem?_cons_zero, List.getElem?_cons_succ]; rfl
  case hwr1 => rfl
  case hyr1 => intro W hW; go_simp; with_reducible rfl
  simp only [Act.put, List.setIfInBounds_toArray, List.set_cons_zero, List.set_cons_succ]
  refine ext_take (i := 2) (oi := ?oir2) (v := ?vr2) ?hir2 (by kernel_rfl) (by kernel_rfl) (by kernel_rfl) hQ ?hwr2 ?hyr2 ?restr2
  case hir2 => simp only [List.getElem?_toArray, List.getElem?_cons_zero, List.getElem?_cons_succ]; rfl
  case hwr2 => rfl
  case hyr2 => intro W hW; go_simp; with_reducible rfl
  simp only [Act.put, List.setIfInBounds_toArray, List.set_cons_zero, List.set_cons_succ]
  refine ext_take (i := 3) (oi := ?oir3) (v := ?vr3) ?hir3 (by kernel_rfl) (by kernel_rfl) (by kernel_rfl) hQ ?hwr3 ?hyr3 ?restr3
  case hir3 => simp only [List.getElem?_toArray, List.getElem?_cons_zero, List.getElem?_cons_succ]; rfl
  case hwr3 => rfl
  case hyr3 => intro W hW; go_simp; with_reducible rfl
  simp only [Act.put, List.setIfInBounds_toArray, List.set_cons_zero, List.set_cons_succ]
  refine ext_take (i := 5) (oi := ?oir5) (v := ?vr5) ?hir5 (by kernel_rfl) (by kernel_rfl) (by kernel_rfl) hQ ?hwr5 ?hyr5 ?restr5
  case hir5 => simp only [List.getElem?_toArray, List.getElem?_cons_zero, List.getElem?_cons_succ]; rfl
  case hwr5 => rfl
  case hyr5 => intro W hW; go_simp; with_reducible rfl
  simp only [Act.put, List.setIfInBounds_toArray, List.set_cons_zero, List.set_cons_succ]
  refine ext_take (i := 6) (oi := ?oir6) (v := ?vr6) ?hir6 (by kernel_rfl) (by kernel_rfl) (by kernel_rfl) hQ ?hwr6 ?hyr6 ?restr6
  case hir6 => simp only [List.getElem?_toArray, List.getElem?_cons_zero, List.getElem?_cons_succ]; rfl
  case hwr6 => rfl
  case hyr6 => intro W hW; go_simp; with_reducible rfl
  simp only [Act.put, List.setIfInBounds_toArray, List.set_cons_zero, List.set_cons_succ]
  refine ext_take (i := 7) (oi := ?oir7) (v := ?vr7) ?hir7 (by kernel_rfl) (by kernel_rfl) (by kernel_rfl) hQ ?hwr7 ?hyr7 ?restr7
  case hir7 => simp only [List.getElem?_toArray, List.getElem?_cons_zero, List.getElem?_cons_succ]; rfl
  case hwr7 => rfl
  case hyr7 => intro W hW; go_simp; with_reducible rfl
  simp only [Act.put, List.setIfInBounds_toArray, List.set_cons_zero, List.set_cons_succ]
  refine ext_take (i := 8) (oi := ?oir8) (v := ?vr8) ?hir8 (by kernel_rfl) (by kernel_rfl) (by kernel_rfl) hQ ?hwr8 ?hyr8 ?restr8
  case hir8 => simp only [List.getElem?_toArray, List.getElem?_cons_zero, List.getElem?_cons_succ]; rfl
  case hwr8 => rfl
  case hyr8 => intro W hW; go_simp; with_reducible rfl
  simp only [Act.put, List.setIfInBounds_toArray, List.set_cons_zero, List.set_cons_succ]
  refine ext_step (i := 4) (oi := ?oir4) (by kernel_rfl) ?hir4 ?hwr4 (fun K hK => ?_)
  case hir4 => simp only [List.getElem?_toArray, List.getElem?_cons_zero, List.getElem?_cons_succ]; rfl
  case hwr4 => rfl
  go_simp
  refine (rnumber25_any _ _ _ bx x RX (by omega) (by omega)).mono ?_; rintro e wq ⟨rfl, rfl⟩; rw [HCQ.out.2]; refine hK _ _ (Ext.refl _) ?_
  try simp only [Act.put, List.setIfInBounds_toArray, List.set_cons_zero, List.set_cons_succ]
  refine ext_step (i := 9) (oi := ?oir9) (by kernel_rfl) ?hir9 ?hwr9 (fun K hK => ?_)
  case hir9 => simp only [List.getElem?_toArray, List.getElem?_cons_zero, List.getElem?_cons_succ]; rfl
  case hwr9 => rfl
  go_simp
  refine (on_any 0 (by omega) _ _ _ be x RE (by omega)).mono ?_; rintro e wa ⟨rfl, ba⟩; rw [HCQ.out.1]; have hBa := hB9.trans (ba.mono hx); refine hK _ _ ba ?_
  try simp only [Act.put, List.setIfInBounds_toArray, List.set_cons_zero, List.set_cons_succ]
  refine ext_take (i := 10) (oi := ?oir10) (v := ?vr10) ?hir10 (by kernel_rfl) (by kernel_rfl) (by kernel_rfl) hQ ?hwr10 ?hyr10 ?restr10
  case hir10 => simp only [List.getElem?_toArray, List.getElem?_cons_zero, List.getElem?_cons_succ]; rfl
  case hwr10 => rfl
  case hyr10 => intro W hW; go_simp; with_reducible rfl
  simp only [Act.put, List.setIfInBounds_toArray, List.set_cons_zero, List.set_cons_succ]
  refine ext_take (i := 11) (oi := ?oir11) (v := ?vr11) ?hir11 (by kernel_rfl) (by kernel_rfl) (by kernel_rfl) hQ ?hwr11 ?hyr11 ?restr11
  case hir11 => simp only [List.getElem?_toArray, List.getElem?_cons_zero, List.getElem?_cons_succ]; rfl
  case hwr11 => rfl
  case hyr11 => intro W hW; go_simp; with_reducible rfl
  simp only [Act.put, List.setIfInBounds_toArray, List.set_cons_zero, List.set_cons_succ]
  refine wpAnyH_done (by kernel_rfl) ?_ _
  simp only [NoP]
  rw [HCQ.out.1, HCQ.out.2] at HBD
  clear RX RE SLa SLb hB9
  by_cases c6 : q0 = cs
  rotate_left
  · have HE := Lib.hid (show redS b = ([], 22) from by rw [HBD.out, if_pos c6])
    have e1 : ((q0 : Int) != (cs : Int)) = true := by rw [bne_iff_ne]; omega
    go_wp2_with fail
    go_ret2
    exact ⟨none, 0, by rw [HE.out]; rfl, by rw [HE.out]; exact OwR.nil _ _, hBa⟩
  have HE := Lib.hid (show redS b = endS (rdD k F ((b.take E).drop 6) (b.drop F) [] []) from by rw [HBD.out, if_neg (by simpa using c6), HBE.out])
  have HCC := Lib.hid c6
  have e1 : ((q0 : Int) != (cs : Int)) = false := by rw [bne_eq_false_iff_eq, c6]
  rw [e1]
  clear e1
  have hFn : F ≤ n := by have := HFE.out; omega
  have wF : IntKind.u64.wrap (F : Int) = (F : Int) := by rw [IntKind.wrap_u64]; omega
  have wn : IntKind.u64.wrap (n : Int) = (n : Int) := by rw [IntKind.wrap_u64]; omega
  clear c6
  go_wp2_with fail
  go_loopw [6, 7, 8] (fun v6 v7 v8 wr => ∃ (j : Nat) (L1 : List (Nat × List UInt8)) (Al : Option Addr) (cl at_ : Nat), j ≤ k ∧ v8 = .int .i64 (j : Int) ∧ v6 = .slice Al j cl ∧ OwR wr w.heap.size Al j cl L1 ∧ v7 = .int .u64 (at_ : Int) ∧ at_ ≤ n ∧
    rdD k F ((b.take E).drop 6) (b.drop F) [] [] = rdD (k - j) at_ (((b.take E).drop 6).drop (13 * j)) (b.drop at_) L1 ((List.range j).map (fun i => num4 (b.drop (15 + 13 * i)))) ∧ Below w.heap.size w wr ∧ ∀ p ∈ L1, p.2.length ≤ 200000) (fun _ _ i _ => k - (intOf i).toNat)
  case atStart => exact ⟨0, [], none, 0, F, by omega, rfl, rfl, OwR.nil _ _, by go_num, by omega, rfl, hBa, fun p hp => by simp at hp⟩
  case round =>
    clear hBa
    obtain ⟨j, L1, Al, cl, at_, hj, rfl, rfl, hw, rfl, hat, hrd, hB, hbn⟩ := hrel
    have HBN := Lib.hid hbn
    clear hbn
    by_cases hjk : j < k
    · have hb19 : 19 + 13 * j ≤ n := by have := HK13.out; omega
      have hjE : 13 * j ≤ 200 := by omega
      obtain ⟨p, hp⟩ : ∃ p, 6 + 13 * j = p := ⟨_, rfl⟩
      obtain ⟨r1, r5, r9, r0, r13⟩ := row_b (b := b) HK13.out hE6 hjk (by have := HLB.out; omega)
      have HROW := Lib.hid (And.intro r1 (And.intro r5 (And.intro r9 (And.intro r0 r13))))
      clear r1 r5 r9 r0 r13
      obtain ⟨dj, hdj⟩ : ∃ dj, (b.drop p).take 13 = dj := ⟨_, rfl⟩
      have hdjl : dj.length = 13 := by rw [← hdj, List.length_take, List.length_drop]; have := HLB.out; omega
      have hRd : Rb w (sA (some ad) c p) 13 dj := by
        rw [← hdj]; exact sub_reads HR2.out (by omega) hc.1
      obtain ⟨add, hAd, habd, hcelld⟩ := hRd.2 (by omega)
      obtain ⟨y0, hy0⟩ : ∃ y0, dj[0]? = some y0 := ⟨_, List.getElem?_eq_getElem (by omega)⟩
      have hcd0 := hcelld 0 (b8 y0) (by rw [List.getElem?_map, hy0]; rfl)
      rw [add_zero5] at hcd0
      have HY := Lib.hid (show b.getD p 0 = y0 from by
        rw [← hdj, List.getElem?_take, if_pos (by omega), List.getElem?_drop, Nat.add_zero] at hy0
        rw [List.getD_eq_getElem?_getD, hy0]; rfl)
      have hy256 := y0.toNat_lt
      obtain ⟨y, hy_⟩ : ∃ y, y0.toNat = y := ⟨_, rfl⟩
      have hcd1 : w.cell? add = some (.int .u8 (y : Int)) := by rw [hcd0, b8, hy_]
      have HYY := Lib.hid hy_
      have hy : y < 256 := by omega
      rw [hAd] at hRd
      have hcp : 13 ≤ c - p ∧ c - p ≤ 9223372036854775807 := by omega
      have HS5 := Lib.hid (show ∀ i, i ≤ 13 → Rb w (sA (some add) (c - p) i) (13 - i) (dj.drop i) from fun i hi => by
        have := sub_reads (c := c - p) (i := i) (v := 13 - i) hRd (by omega) hcp.1
        rwa [List.take_of_length_le (by rw [List.length_drop]; omega)] at this)
      have wj : IntKind.i64.wrap (13 * (j : Int)) = 13 * (j : Int) := by rw [IntKind.wrap_i64]; omega
      have TD : ∀ W, (Instr.slice 22 (.slice (some ad) n c) (some (.int .i64 (6 + 13 * (j : Int)))) (some (.int .i64 (6 + 13 * (j : Int) + 13))) none).run Try.prog W = .ok (.slice (some add) 13 (c - p)) W := fun W => by
        rw [← hAd]; exact sl5_lh (some ad) n c p 13 (by omega) (by omega) (by omega) W
      have T1 : ∀ W, (Instr.slice 22 (.slice (some add) 13 (c - p)) (some (.int .i64 1)) none none).run Try.prog W = .ok (.slice (sA (some add) (c - p) 1) 12 (c - p - 1)) W := fun W => sl5_l (some add) 13 (c - p) 1 rfl (by omega) W
      have T5 : ∀ W, (Instr.slice 22 (.slice (some add) 13 (c - p)) (some (.int .i64 5)) none none).run Try.prog W = .ok (.slice (sA (some add) (c - p) 5) 8 (c - p - 5)) W := fun W => sl5_l (some add) 13 (c - p) 5 rfl (by omega) W
      have HS1 := Lib.hid (show num4 (dj.drop 1) = num4 (b.drop (7 + 13 * j)) from by rw [← hdj, sub_row 1 (by omega)]; congr 2; omega)
      have HS2 := Lib.hid (show num4 (dj.drop 5) = num4 (b.drop (11 + 13 * j)) from by rw [← hdj, sub_row 5 (by omega)]; congr 2; omega)
      have HPP := Lib.hid hp
      have HRDD := Lib.hid hrd
      clear hrd hcelld hcd0 hy0 hy_ hdj hdjl hAd hRd hp
      go_wp2_with fail
      refine (rnumber25_any _ _ _ (dj.drop 5) _ ((HS5.out 5 (by omega)).mv hB) (by omega) (by omega)).mono ?_
      rintro e wq ⟨rfl, rfl⟩
      have hs0 := num4_lt (dj.drop 5)
      obtain ⟨sz, hsz⟩ : ∃ sz, num4 (dj.drop 5) = sz := ⟨_, rfl⟩
      rw [hsz] at hs0 HS2 ⊢
      clear hsz
      go_wp2_with fail
      refine (rnumber25_any _ _ _ (dj.drop 1) _ ((HS5.out 1 (by omega)).mv hB) (by omega) (by omega)).mono ?_
      rintro e wq ⟨rfl, rfl⟩
      have hs1 := num4_lt (dj.drop 1)
      obtain ⟨q1, hq1⟩ : ∃ q1, num4 (dj.drop 1) = q1 := ⟨_, rfl⟩
      rw [hq1] at hs1 HS1 ⊢
      clear hq1
      have hrl : (b.drop at_).length = n - at_ := by rw [List.length_drop, HLB.out]
      by_cases hqa : q1 = at_
      rotate_left
      · have HE2 := Lib.hid (show redS b = ([], 12) from by rw [HE.out, HRDD.out, show k - j = (k - j - 1) + 1 from by omega, rdD_no (.inl (by rw [HROW.out.1, ← HS1.out]; exact hqa))]; rfl)
        have f1 : ((q1 : Int) != (at_ : Int)) = true := by rw [bne_iff_ne]; omega
        clear hrl
        go_wp2_with fail
        go_ret2
        exact ⟨none, 0, by rw [HE2.out]; rfl, by rw [HE2.out]; exact OwR.nil _ _, hB⟩
      have HQA := Lib.hid hqa
      have f1 : ((q1 : Int) != (at_ : Int)) = false := by rw [bne_eq_false_iff_eq, hqa]
      clear hqa
      have wna : IntKind.u64.wrap ((n : Int) - (at_ : Int)) = (n : Int) - (at_ : Int) := by rw [IntKind.wrap_u64]; omega
      by_cases hsr : n - at_ < sz
      · have HE2 := Lib.hid (show redS b = ([], 12) from by rw [HE.out, HRDD.out, show k - j = (k - j - 1) + 1 from by omega, rdD_no (.inr (by rw [HROW.out.2.1, ← HS2.out, hrl]; exact hsr))]; rfl)
        have f2 : decide ((sz : Int) > (n : Int) - (at_ : Int)) = true := by simp; omega
        clear hrl
        go_wp2_with fail
        go_ret2
        exact ⟨none, 0, by rw [HE2.out]; rfl, by rw [HE2.out]; exact OwR.nil _ _, hB⟩
      have f2 : decide ((sz : Int) > (n : Int) - (at_ : Int)) = false := by simp; omega
      have HNX := Lib.hid (show rdD k F ((b.take E).drop 6) (b.drop F) [] [] = rdD (k - (j + 1)) (at_ + sz) (((b.take E).drop 6).drop (13 * (j + 1))) (b.drop (at_ + sz)) (L1 ++ [(y, (b.drop at_).take sz)]) ((List.range (j + 1)).map (fun i => num4 (b.drop (15 + 13 * i)))) from by
        rw [HRDD.out, show k - j = (k - (j + 1)) + 1 from by omega, rdD_yes (by rw [HROW.out.1, HROW.out.2.1, ← HS1.out, ← HS2.out, hrl, HQA.out]; omega), HROW.out.2.1, ← HS2.out, HROW.out.2.2.2.1, HROW.out.2.2.2.2, HROW.out.2.2.1, HPP.out, HY.out, HYY.out, show (b.drop at_).drop sz = b.drop (at_ + sz) from List.drop_drop, List.range_succ, List.map_append]; rfl)
      obtain ⟨l, hl⟩ : ∃ l, (b.drop at_).take sz = l := ⟨_, rfl⟩
      have hll : l.length = sz := by rw [← hl, List.length_take, hrl]; omega
      have HRT := Lib.hid (show Rb w (sA (some ad) c at_) sz l from by
        rw [← hl]; exact sub_reads HR2.out (by omega) hc.1)
      rw [hl] at HNX
      clear hl hrl HROW
      subst hll
      have was : IntKind.u64.wrap ((at_ : Int) + (l.length : Int)) = (at_ : Int) + (l.length : Int) := by rw [IntKind.wrap_u64]; omega
      have U1 : ∀ W, (Instr.slice 22 (.slice (some ad) n c) (some (.int .u64 (at_ : Int))) (some (.int .u64 ((at_ : Int) + (l.length : Int)))) none).run Try.prog W = .ok (.slice (sA (some ad) c at_) l.length (c - at_)) W := fun W => sl5_lh (some ad) n c at_ l.length rfl rfl (by omega) W
      go_wp2_with fail
      refine nop_wp (exb_start w.heap.size (by kernel_rfl) calm_nop (fun hQ => ?_))
      replace hw : OwR wr.drew w.heap.size Al j cl L1 := hw.call (Ext.refl wr).draw
      replace hB : Below w.heap.size w wr.drew := hB.drew
      generalize wr.drew = x at *
      have hx := hB.size
      have X0 : ∀ W, ExB w.heap.size x W → W.cell? add = some (.int .u8 (y : Int)) := fun W h => (h.cell habd).trans ((hB.cell habd).trans hcd1)
      have RX := HRT.out.mv hB
      refine ext_take (i := 0) (oi := ?ois0) (v := ?vs0) ?his0 (by kernel_rfl) (by kernel_rfl) (by kernel_rfl) hQ ?hws0 ?hys0 ?rests0
      case his0 => simp only [List.getElem?_toArray, List.getElem?_cons_zero]; rfl
      case hws0 => rfl
      case hys0 => intro W hW; go_simp; with_reducible rfl
      simp only [Act.put, List.setIfInBounds_toArray, List.set_cons_zero, List.set_cons_succ]
      refine ext_take (i := 1) (oi := ?ois1) (v := ?vs1) ?his1 (by kernel_rfl) (by kernel_rfl) (by kernel_rfl) hQ ?hws1 ?hys1 ?rests1
      case his1 => simp only [List.getElem?_toArray, List.getElem?_cons_zero, List.getElem?_cons_succ]; rfl
      case hws1 => rfl
      case hys1 => intro W hW; go_simp; with_reducible rfl
      simp only [Act.put, List.setIfInBounds_toArray, List.set_cons_zero, List.set_cons_succ]
      refine ext_take (i := 2) (oi := ?ois2) (v := ?vs2) ?his2 (by kernel_rfl) (by kernel_rfl) (by kernel_rfl) hQ ?hws2 ?hys2 ?rests2
      case his2 => simp only [List.getElem?_toArray, List.getElem?_cons_zero, List.getElem?_cons_succ]; rfl
      case hws2 => rfl
      case hys2 => intro W hW; go_simp; with_reducible rfl
      simp only [Act.put, List.setIfInBounds_toArray, List.set_cons_zero, List.set_cons_succ]
      refine ext_take (i := 3) (oi := ?ois3) (v := ?vs3) ?his3 (by kernel_rfl) (by kernel_rfl) (by kernel_rfl) hQ ?hws3 ?hys3 ?rests3
      case his3 => simp only [List.getElem?_toArray, List.getElem?_cons_zero, List.getElem?_cons_succ]; rfl
      case hws3 => rfl
      case hys3 => intro W hW; go_simp; with_reducible rfl
      simp only [Act.put, List.setIfInBounds_toArray, List.set_cons_zero, List.set_cons_succ]
      refine ext_take (i := 5) (oi := ?ois5) (v := ?vs5) ?his5 (by kernel_rfl) (by kernel_rfl) (by kernel_rfl) hQ ?hws5 ?hys5 ?rests5
      case his5 => simp only [List.getElem?_toArray, List.getElem?_cons_zero, List.getElem?_cons_succ]; rfl
      case hws5 => rfl
      case hys5 => intro W hW; go_simp; with_reducible rfl
      simp only [Act.put, List.setIfInBounds_toArray, List.set_cons_zero, List.set_cons_succ]
      refine ext_take (i := 6) (oi := ?ois6) (v := ?vs6) ?his6 (by kernel_rfl) (by kernel_rfl) (by kernel_rfl) hQ ?hws6 ?hys6 ?rests6
      case his6 => simp only [List.getElem?_toArray, List.getElem?_cons_zero, List.getElem?_cons_succ]; rfl
      case hws6 => rfl
      case hys6 => intro W hW; go_simp; with_reducible rfl
      simp only [Act.put, List.setIfInBounds_toArray, List.set_cons_zero, List.set_cons_succ]
      refine ext_take (i := 7) (oi := ?ois7) (v := ?vs7) ?his7 (by kernel_rfl) (by kernel_rfl) (by kernel_rfl) hQ ?hws7 ?hys7 ?rests7
      case his7 => simp only [List.getElem?_toArray, List.getElem?_cons_zero, List.getElem?_cons_succ]; rfl
      case hws7 => rfl
      case hys7 => intro W hW; go_simp; with_reducible rfl
      simp only [Act.put, List.setIfInBounds_toArray, List.set_cons_zero, List.set_cons_succ]
      refine ext_take (i := 8) (oi := ?ois8) (v := ?vs8) ?his8 (by kernel_rfl) (by kernel_rfl) (by kernel_rfl) hQ ?hws8 ?hys8 ?rests8
      case his8 => simp only [List.getElem?_toArray, List.getElem?_cons_zero, List.getElem?_cons_succ]; rfl
      case hws8 => rfl
      case hys8 => intro W hW; go_simp; with_reducible rfl
      simp only [Act.put, List.setIfInBounds_toArray, List.set_cons_zero, List.set_cons_succ]
      refine ext_take (i := 9) (oi := ?ois9) (v := ?vs9) ?his9 (by kernel_rfl) (by kernel_rfl) (by kernel_rfl) hQ ?hws9 ?hys9 ?rests9
      case his9 => simp only [List.getElem?_toArray, List.getElem?_cons_zero, List.getElem?_cons_succ]; rfl
      case hws9 => rfl
      case hys9 => intro W hW; go_simp; with_reducible rfl
      simp only [Act.put, List.setIfInBounds_toArray, List.set_cons_zero, List.set_cons_succ]
      refine ext_take (i := 10) (oi := ?ois10) (v := ?vs10) ?his10 (by kernel_rfl) (by kernel_rfl) (by kernel_rfl) hQ ?hws10 ?hys10 ?rests10
      case his10 => simp only [List.getElem?_toArray, List.getElem?_cons_zero, List.getElem?_cons_succ]; rfl
      case hws10 => rfl
      case hys10 => intro W hW; go_simp; with_reducible rfl
      simp only [Act.put, List.setIfInBounds_toArray, List.set_cons_zero, List.set_cons_succ]
      refine exb_step (i := 4) (oi := ?ois4) (by kernel_rfl) ?his4 ?hws4 (fun K hK => ?_)
      case his4 => simp only [List.getElem?_toArray, List.getElem?_cons_zero, List.getElem?_cons_succ]; rfl
      case hws4 => rfl
      go_simp
      have b5 : Below x.heap.size x (x.alloc (.cells #[] 5)) := Ext.al x (.cells #[] 5); have o5 := own_empty x (Nat.le_refl _) 5 1; have R5 := RX.mv b5; refine hK _ _ _ (Nat.le_refl _) (Below.mono b5 hx) ?_; have hx5 := b5.size; generalize hg5 : x.heap.size = g5 at *; generalize hw5 : x.alloc (.cells #[] 5) = w5 at *; have HG_ := Lib.hid hg5; have HW_ := Lib.hid hw5; clear hg5 hw5
      try simp only [Act.put, List.setIfInBounds_toArray, List.set_cons_zero, List.set_cons_succ]
      refine exb_step (i := 11) (oi := ?ois11) (by kernel_rfl) ?his11 ?hws11 (fun K hK => ?_)
      case his11 => simp only [List.getElem?_toArray, List.getElem?_cons_zero, List.getElem?_cons_succ]; rfl
      case hws11 => rfl
      (refine wp_app8 (l := []) (.tmp 86) (.tmp 92) _ (by rfl) sl8 g5 (by rfl) o5 (by rfl) R5 l.length (by omega) (by omega) hx5 ?_; intro A6 c6 w6 o6 b6; rw [List.nil_append] at o6; refine hK _ _ _ (Nat.le_refl _) (b6.mono hx) ?_; have b56 := b5.trans b6; have hB6 := hB.trans (b56.mono hx); have hw6 := hw.call (by rw [HG_.out]; exact b56); have o6 := own_low o6 hx)
      try simp only [Act.put, List.setIfInBounds_toArray, List.set_cons_zero, List.set_cons_succ]
      refine ext_take (i := 12) (oi := ?ois12) (v := ?vs12) ?his12 (by kernel_rfl) (by kernel_rfl) (by kernel_rfl) hQ ?hws12 ?hys12 ?rests12
      case his12 => simp only [List.getElem?_toArray, List.getElem?_cons_zero, List.getElem?_cons_succ]; rfl
      case hws12 => rfl
      case hys12 => intro W hW; go_simp; with_reducible rfl
      simp only [Act.put, List.setIfInBounds_toArray, List.set_cons_zero, List.set_cons_succ]
      refine exb_step (i := 13) (oi := ?ois13) (by kernel_rfl) ?his13 ?hws13 (fun K hK => ?_)
      case his13 => simp only [List.getElem?_toArray, List.getElem?_cons_zero, List.getElem?_cons_succ]; rfl
      case hws13 => rfl
      go_simp
      have b7 := Ext.al w6 (.cells #[.int .u8 (y : Int), .slice A6 l.length c6] 32); have R7 := reads_two w6 (.int .u8 (y : Int)) (.slice A6 l.length c6) 32; have hw7 := hw6.call b7; have o7 := own_call o6 b7; have hB7 := hB6.trans (Below.mono b7 hB6.size); refine hK _ _ _ (Nat.le_refl _) (Below.mono b7 hB6.size) ?_; generalize w6.heap.size = g7 at *; generalize w6.alloc (.cells #[.int .u8 (y : Int), .slice A6 l.length c6] 32) = w7 at *; obtain ⟨k1, vs, k2, k3, k4, k5⟩ := hw7
      try simp only [Act.put, List.setIfInBounds_toArray, List.set_cons_zero, List.set_cons_succ]
      refine exb_step (i := 14) (oi := ?ois14) (by kernel_rfl) ?his14 ?hws14 (fun K hK => ?_)
      case his14 => simp only [List.getElem?_toArray, List.getElem?_cons_zero, List.getElem?_cons_succ]; rfl
      case hws14 => rfl
      (refine wp_app (.tmp 82) (.tmp 95) _ (by rfl) slSC w.heap.size _ j vs.flatten (by rfl) k4 _ _ 1 _ [.int .u8 (y : Int), .slice A6 l.length c6] (by rfl) R7 (by simp [Value.oneCell']) (by omega) hB7.size ?_; intro A8 c8 w8 o8 hg8 b8_ hc8; have hw8 := OwR.snoc (p := (y, l)) k1 k2 k3 k4 k5 o7 hy o8 hg8; refine hK _ _ _ (Nat.le_refl _) b8_ ?_; have hB8 := hB7.trans b8_)
      try simp only [Act.put, List.setIfInBounds_toArray, List.set_cons_zero, List.set_cons_succ]
      refine ext_take (i := 15) (oi := ?ois15) (v := ?vs15) ?his15 (by kernel_rfl) (by kernel_rfl) (by kernel_rfl) hQ ?hws15 ?hys15 ?rests15
      case his15 => simp only [List.getElem?_toArray, List.getElem?_cons_zero, List.getElem?_cons_succ]; rfl
      case hws15 => rfl
      case hys15 => intro W hW; go_simp; with_reducible rfl
      simp only [Act.put, List.setIfInBounds_toArray, List.set_cons_zero, List.set_cons_succ]
      refine wpAnyH_done (by kernel_rfl) ?_ _

      simp only [NoP]
      clear X0 RX
      clear o8 hg8 k5 k4 k3 k2 k1 vs R7 o7 o6 hw6 hB6 hB7 b6 b7 b8_
      go_wp2_with fail
      go_roundw
      case rel => exact ⟨j + 1, L1 ++ [(y, l)], A8, c8, at_ + l.length, by omega, by go_num, rfl, hw8, by go_num, by omega, HNX.out, hB8, fun p hp => by rcases List.mem_append.1 hp with h | h; exact HBN.out p h; (simp at h; subst h; show l.length ≤ 200000; omega)⟩
      case measure => simp [intOf]; omega
    · obtain rfl : j = k := by omega
      have HLL := Lib.hid hw.1
      have HFIN := Lib.hid (show redS b = endS (some (L1, (List.range j).map (fun i => num4 (b.drop (15 + 13 * i))), b.drop at_)) from by rw [HE.out, hrd, Nat.sub_self, rdD])
      have HNL := Lib.hid (show b.drop at_ = [] ↔ at_ = n from by rw [List.drop_eq_nil_iff, HLB.out]; omega)
      clear hrd
      go_wp2_with fail
      refine (rordered25_any Al j cl L1 _ hw.rd (by omega)).mono ?_
      rintro e w1 ⟨rfl, b1⟩
      replace hw := hw.call b1
      replace hB := hB.trans (b1.mono hB.size)
      clear b1
      cases ho : ordB 0 L1
      · have HE2 := Lib.hid (show redS b = ([], 12) from by rw [HFIN.out, endS, if_pos (.inl ho)])
        go_wp2_with fail
        go_ret2
        exact ⟨none, 0, by rw [HE2.out]; rfl, by rw [HE2.out]; exact OwR.nil _ _, hB⟩
      have HO := Lib.hid ho
      clear ho
      by_cases han : at_ = n
      rotate_left
      · have HE2 := Lib.hid (show redS b = ([], 12) from by rw [HFIN.out, endS, if_pos (.inr (fun h => han (HNL.out.1 h)))])
        have f3 : ((at_ : Int) != (n : Int)) = true := by rw [bne_iff_ne]; omega
        go_wp2_with fail
        go_ret2
        exact ⟨none, 0, by rw [HE2.out]; rfl, by rw [HE2.out]; exact OwR.nil _ _, hB⟩
      have HF2 := Lib.hid (show redS b = if L1.map (fun p => nxt 0 p.2) = (List.range j).map (fun i => num4 (b.drop (15 + 13 * i))) then (L1, 0) else ([], 22) from by rw [HFIN.out, endS, if_neg (by rw [HO.out, HNL.out.2 han]; simp)])
      subst han
      have f3 : ((at_ : Int) != (at_ : Int)) = false := by simp
      obtain ⟨S1, hS1⟩ : ∃ S1, (List.range j).map (fun i => num4 (b.drop (15 + 13 * i))) = S1 := ⟨_, rfl⟩
      have HS1 := Lib.hid (show S1.length = j ∧ ∀ t, t < j → S1[t]? = some (num4 (b.drop (15 + 13 * t))) from ⟨by rw [← hS1]; simp, fun t ht => by rw [← hS1]; simp [ht]⟩)
      rw [hS1] at HF2
      clear hS1 HFIN HNL
      go_wp2_with fail
      go_loopw [11] (fun i wr => ∃ t : Nat, t ≤ j ∧ i = .int .i64 (t : Int) ∧ OwR wr w.heap.size Al j cl L1 ∧ (L1.map (fun p => nxt 0 p.2)).take t = S1.take t ∧ Below w.heap.size w wr) (fun i _ => j - (intOf i).toNat)
      case atStart => exact ⟨0, by omega, rfl, hw, rfl, hB⟩
      case round =>
        clear hw hB
        obtain ⟨t, ht, rfl, hw, htk, hB⟩ := hrel
        have HTK := Lib.hid htk
        clear htk
        by_cases hlt : t < j
        · obtain ⟨ad2, y, l, Ai, ci, hA, hab2, hz_, c0, c1_, hci, hrl2, hb256⟩ := hw.rd.at_ hlt
          subst hA
          have hl2 := HBN.out _ (List.mem_of_getElem? hz_)
          simp only at hl2
          have HZ := Lib.hid hz_
          have hb19 : 19 + 13 * t ≤ at_ := by have := HK13.out; omega
          obtain ⟨p, hp⟩ : ∃ p, 15 + 13 * t = p := ⟨_, rfl⟩
          have wj : IntKind.i64.wrap (13 * (t : Int)) = 13 * (t : Int) := by rw [IntKind.wrap_i64]; omega
          have wj2 : IntKind.i64.wrap (6 + 13 * (t : Int)) = 6 + 13 * (t : Int) := by rw [IntKind.wrap_i64]; omega
          have wj3 : IntKind.i64.wrap (6 + 13 * (t : Int) + 9) = (p : Int) := by rw [IntKind.wrap_i64]; omega
          have TD : ∀ W, (Instr.slice 22 (.slice (some ad) at_ c) (some (.int .i64 (p : Int))) none none).run Try.prog W = .ok (.slice (sA (some ad) c p) (at_ - p) (c - p)) W := fun W => sl5_l (some ad) at_ c p rfl (by omega) W
          have HRP := Lib.hid (show Rb w (sA (some ad) c p) (at_ - p) (b.drop p) from by
            have := sub_reads (c := c) (i := p) (v := at_ - p) HR2.out (by omega) hc.1
            rwa [List.take_of_length_le (by rw [List.length_drop]; have := HLB.out; omega)] at this)
          have HZS := Lib.hid (show S1[t]? = some (num4 (b.drop p)) from by rw [HS1.out.2 t hlt, hp])
          have hcs2 := nxt_lt l
          obtain ⟨cs2, hcse2⟩ : ∃ cs2, nxt 0 l = cs2 := ⟨_, rfl⟩
          have hq2 := num4_lt (b.drop p)
          obtain ⟨q2, hqe2⟩ : ∃ q2, num4 (b.drop p) = q2 := ⟨_, rfl⟩
          have HCQ2 := Lib.hid (And.intro hcse2 hqe2)
          rw [hcse2] at hcs2
          rw [hqe2] at hq2 HZS
          have wcs2 : IntKind.u64.wrap (cs2 : Int) = (cs2 : Int) := by rw [IntKind.wrap_u64]; omega
          have hpn : p + 4 ≤ at_ := by omega
          clear hz_ hp hcse2 hqe2
          go_wp2_with fail
          refine nop_wp (ext_start (by kernel_rfl) calm_nop (fun hQ => ?_))
          replace hB : Below w.heap.size w wr.drew := hB.drew
          replace hw : OwR wr.drew w.heap.size (some ad2) j cl L1 := hw.call (Ext.refl wr).draw
          replace hrl2 : Rb wr.drew Ai l.length l := hrl2
          replace c1_ : wr.drew.cell? _ = _ := c1_
          replace hab2 : ad2.block < wr.drew.heap.size := hab2
          have RX := HRP.out.mv hB
          have hx := hB.size
          obtain ⟨x, hxx⟩ : ∃ x, wr.drew = x := ⟨_, rfl⟩
          rw [hxx] at hB RX hx hw hrl2 c1_ hab2 ⊢
          clear hxx
          have X1 : ∀ W, Ext x W → W.cell? { block := (ad2.add (t * 2)).block, off := (ad2.add (t * 2)).off + 1 } = some (.slice Ai l.length ci) := fun W h => (Below.cell h (by show (ad2.add (t * 2)).block < _; rw [block_of_add]; exact hab2)).trans c1_
          refine ext_take (i := 0) (oi := ?oiu0) (v := ?vu0) ?hiu0 (by kernel_rfl) (by kernel_rfl) (by kernel_rfl) hQ ?hwu0 ?hyu0 ?restu0
          case hiu0 => simp only [List.getElem?_toArray, List.getElem?_cons_zero]; rfl
          case hwu0 => rfl
          case hyu0 => intro W hW; go_simp; with_reducible rfl
          simp only [Act.put, List.setIfInBounds_toArray, List.set_cons_zero, List.set_cons_succ]
          refine ext_take (i := 1) (oi := ?oiu1) (v := ?vu1) ?hiu1 (by kernel_rfl) (by kernel_rfl) (by kernel_rfl) hQ ?hwu1 ?hyu1 ?restu1
          case hiu1 => simp only [List.getElem?_toArray, List.getElem?_cons_zero, List.getElem?_cons_succ]; rfl
          case hwu1 => rfl
          case hyu1 => intro W hW; go_simp; with_reducible rfl
          simp only [Act.put, List.setIfInBounds_toArray, List.set_cons_zero, List.set_cons_succ]
          refine ext_take (i := 2) (oi := ?oiu2) (v := ?vu2) ?hiu2 (by kernel_rfl) (by kernel_rfl) (by kernel_rfl) hQ ?hwu2 ?hyu2 ?restu2
          case hiu2 => simp only [List.getElem?_toArray, List.getElem?_cons_zero, List.getElem?_cons_succ]; rfl
          case hwu2 => rfl
          case hyu2 => intro W hW; go_simp; with_reducible rfl
          simp only [Act.put, List.setIfInBounds_toArray, List.set_cons_zero, List.set_cons_succ]
          refine ext_take (i := 3) (oi := ?oiu3) (v := ?vu3) ?hiu3 (by kernel_rfl) (by kernel_rfl) (by kernel_rfl) hQ ?hwu3 ?hyu3 ?restu3
          case hiu3 => simp only [List.getElem?_toArray, List.getElem?_cons_zero, List.getElem?_cons_succ]; rfl
          case hwu3 => rfl
          case hyu3 => intro W hW; go_simp; with_reducible rfl
          simp only [Act.put, List.setIfInBounds_toArray, List.set_cons_zero, List.set_cons_succ]
          refine ext_take (i := 4) (oi := ?oiu4) (v := ?vu4) ?hiu4 (by kernel_rfl) (by kernel_rfl) (by kernel_rfl) hQ ?hwu4 ?hyu4 ?restu4
          case hiu4 => simp only [List.getElem?_toArray, List.getElem?_cons_zero, List.getElem?_cons_succ]; rfl
          case hwu4 => rfl
          case hyu4 => intro W hW; go_simp; with_reducible rfl
          simp only [Act.put, List.setIfInBounds_toArray, List.set_cons_zero, List.set_cons_succ]
          refine ext_take (i := 5) (oi := ?oiu5) (v := ?vu5) ?hiu5 (by kernel_rfl) (by kernel_rfl) (by kernel_rfl) hQ ?hwu5 ?hyu5 ?restu5
          case hiu5 => simp only [List.getElem?_toArray, List.getElem?_cons_zero, List.getElem?_cons_succ]; rfl
          case hwu5 => rfl
          case hyu5 => intro W hW; go_simp; with_reducible rfl
          simp only [Act.put, List.setIfInBounds_toArray, List.set_cons_zero, List.set_cons_succ]
          refine ext_take (i := 7) (oi := ?oiu7) (v := ?vu7) ?hiu7 (by kernel_rfl) (by kernel_rfl) (by kernel_rfl) hQ ?hwu7 ?hyu7 ?restu7
          case hiu7 => simp only [List.getElem?_toArray, List.getElem?_cons_zero, List.getElem?_cons_succ]; rfl
          case hwu7 => rfl
          case hyu7 => intro W hW; go_simp; with_reducible rfl
          simp only [Act.put, List.setIfInBounds_toArray, List.set_cons_zero, List.set_cons_succ]
          refine ext_take (i := 8) (oi := ?oiu8) (v := ?vu8) ?hiu8 (by kernel_rfl) (by kernel_rfl) (by kernel_rfl) hQ ?hwu8 ?hyu8 ?restu8
          case hiu8 => simp only [List.getElem?_toArray, List.getElem?_cons_zero, List.getElem?_cons_succ]; rfl
          case hwu8 => rfl
          case hyu8 => intro W hW; go_simp; with_reducible rfl
          simp only [Act.put, List.setIfInBounds_toArray, List.set_cons_zero, List.set_cons_succ]
          refine ext_take (i := 9) (oi := ?oiu9) (v := ?vu9) ?hiu9 (by kernel_rfl) (by kernel_rfl) (by kernel_rfl) hQ ?hwu9 ?hyu9 ?restu9
          case hiu9 => simp only [List.getElem?_toArray, List.getElem?_cons_zero, List.getElem?_cons_succ]; rfl
          case hwu9 => rfl
          case hyu9 => intro W hW; go_simp; with_reducible rfl
          simp only [Act.put, List.setIfInBounds_toArray, List.set_cons_zero, List.set_cons_succ]
          refine ext_take (i := 10) (oi := ?oiu10) (v := ?vu10) ?hiu10 (by kernel_rfl) (by kernel_rfl) (by kernel_rfl) hQ ?hwu10 ?hyu10 ?restu10
          case hiu10 => simp only [List.getElem?_toArray, List.getElem?_cons_zero, List.getElem?_cons_succ]; rfl
          case hwu10 => rfl
          case hyu10 => intro W hW; go_simp; with_reducible rfl
          simp only [Act.put, List.setIfInBounds_toArray, List.set_cons_zero, List.set_cons_succ]
          refine ext_take (i := 11) (oi := ?oiu11) (v := ?vu11) ?hiu11 (by kernel_rfl) (by kernel_rfl) (by kernel_rfl) hQ ?hwu11 ?hyu11 ?restu11
          case hiu11 => simp only [List.getElem?_toArray, List.getElem?_cons_zero, List.getElem?_cons_succ]; rfl
          case hwu11 => rfl
          case hyu11 => intro W hW; go_simp; with_reducible rfl
          simp only [Act.put, List.setIfInBounds_toArray, List.set_cons_zero, List.set_cons_succ]
          refine ext_step (i := 6) (oi := ?oiu6) (by kernel_rfl) ?hiu6 ?hwu6 (fun K hK => ?_)
          case hiu6 => simp only [List.getElem?_toArray, List.getElem?_cons_zero, List.getElem?_cons_succ]; rfl
          case hwu6 => rfl
          go_simp
          refine (rnumber25_any _ _ _ (b.drop p) x RX (by omega) (by omega)).mono ?_; rintro e wq ⟨rfl, rfl⟩; rw [HCQ2.out.2]; refine hK _ _ (Ext.refl _) ?_
          try simp only [Act.put, List.setIfInBounds_toArray, List.set_cons_zero, List.set_cons_succ]
          refine ext_step (i := 12) (oi := ?oiu12) (by kernel_rfl) ?hiu12 ?hwu12 (fun K hK => ?_)
          case hiu12 => simp only [List.getElem?_toArray, List.getElem?_cons_zero, List.getElem?_cons_succ]; rfl
          case hwu12 => rfl
          go_simp
          refine (on_any 0 (by omega) Ai l.length ci l x hrl2 (by omega)).mono ?_; rintro e w3 ⟨rfl, b3⟩; rw [HCQ2.out.1]; have hB3 := hB.trans (b3.mono hx); have hw3 := hw.call b3; refine hK _ _ b3 ?_
          try simp only [Act.put, List.setIfInBounds_toArray, List.set_cons_zero, List.set_cons_succ]
          refine ext_take (i := 13) (oi := ?oiu13) (v := ?vu13) ?hiu13 (by kernel_rfl) (by kernel_rfl) (by kernel_rfl) hQ ?hwu13 ?hyu13 ?restu13
          case hiu13 => simp only [List.getElem?_toArray, List.getElem?_cons_zero, List.getElem?_cons_succ]; rfl
          case hwu13 => rfl
          case hyu13 => intro W hW; go_simp; with_reducible rfl
          simp only [Act.put, List.setIfInBounds_toArray, List.set_cons_zero, List.set_cons_succ]
          refine ext_take (i := 14) (oi := ?oiu14) (v := ?vu14) ?hiu14 (by kernel_rfl) (by kernel_rfl) (by kernel_rfl) hQ ?hwu14 ?hyu14 ?restu14
          case hiu14 => simp only [List.getElem?_toArray, List.getElem?_cons_zero, List.getElem?_cons_succ]; rfl
          case hwu14 => rfl
          case hyu14 => intro W hW; go_simp; with_reducible rfl
          simp only [Act.put, List.setIfInBounds_toArray, List.set_cons_zero, List.set_cons_succ]
          refine wpAnyH_done (by kernel_rfl) ?_ _

          simp only [NoP]
          clear RX hrl2 c1_ X1
          by_cases hcz2 : cs2 = q2
          rotate_left
          · have HE2 := Lib.hid (show redS b = ([], 22) from by rw [HF2.out, if_neg (map_at_ne HZ.out HZS.out (by show nxt 0 l ≠ q2; rw [HCQ2.out.1]; exact hcz2))])
            have f4 : ((q2 : Int) != (cs2 : Int)) = true := by rw [bne_iff_ne]; omega
            go_wp2_with fail
            go_ret2
            exact ⟨none, 0, by rw [HE2.out]; rfl, by rw [HE2.out]; exact OwR.nil _ _, hB3⟩
          have f4 : ((q2 : Int) != (cs2 : Int)) = false := by rw [bne_eq_false_iff_eq, hcz2]
          have HN2 := Lib.hid (upto_eq (by rw [List.getElem?_map, HZ.out]; rfl) HZS.out HTK.out (HCQ2.out.1.trans hcz2))
          clear hcz2
          go_wp2_with fail
          go_roundw
          case rel => exact ⟨t + 1, by omega, by go_num, hw3, HN2.out, hB3⟩
          case measure => simp [intOf]; omega
        · obtain rfl : j = t := by omega
          have HOK := Lib.hid (show redS b = (L1, 0) from by
            have h := HTK.out
            rw [List.take_of_length_le (by rw [List.length_map, HLL.out]; omega), List.take_of_length_le (by rw [HS1.out.1]; omega)] at h
            rw [HF2.out, if_pos h])
          go_wp2_with fail
          go_ret2
          refine ⟨Al, cl, ?_, ?_, hB⟩
          · rw [HOK.out]; show _ = Ending.returned (.tuple #[.slice Al L1.length cl, .int .i64 0]); rw [HLL.out]; rfl
          · rw [HOK.out]; show OwR _ _ Al L1.length cl L1; rw [HLL.out]; exact hw

end Go.Proofs.Yteaaiacgebikpaa
