/- The contracts of HeadBytes and of the reference's WriteHeads. Each states its conditions. -/
import Derived.Test.YtljpggebpfpelaaHd8
namespace Go.Proofs.Ytljpggebpfpelaa
open Go.RowKit Wire
set_option linter.unusedVariables false

set_option maxRecDepth 100000 in
set_option maxHeartbeats 6400000 in
theorem headBytes_any (A : Option Addr) (n c : Nat) (L : List Rtn) (w : World) (hr : RdT w A n L) (hh : hsB L = true) :
    Calls Try.prog 48 #[.slice A n c] w fun e w' => ∃ A' c', e = .returned (.slice A' (hsL L).length c') ∧ w'.ownsRow w.heap.size 5 1 (.slice A' (hsL L).length c') (hsL L).length ((hsL L).map b8) ∧ Below w.heap.size w w' := by
  have HN := Lib.hid hr.1
  have HR := Lib.hid hr
  clear hr
  have hb := hsB_n hh
  rw [HN.out] at hb
  have hn1 := hb.1
  have hn2 := hb.2.1
  have HD := Lib.hid hb.2.2
  have HH := Lib.hid hh
  clear hh hb
  have hwn : IntKind.u64.wrap (n : Int) = (n : Int) := by rw [IntKind.wrap_u64]; omega
  go_enter Try.func48, Try.ntmps48
  go_wp2_with fail
  refine (minimal_any n (by omega) _).mono ?_
  rintro e w3 ⟨A3, c3, rfl, o3, b3⟩
  go_wp2_with fail
  go_loopw [3, 4] (fun v i wr => ∃ (j m : Nat) (A1 : Option Addr) (c1 : Nat), j ≤ n ∧ i = .int .i64 (j : Int) ∧ (vry n ++ hBy 0 (L.take j)).length = m ∧ v = .slice A1 m c1 ∧ wr.ownsRow w.heap.size 5 1 (.slice A1 m c1) m ((vry n ++ hBy 0 (L.take j)).map b8) ∧ Below w.heap.size w wr) (fun _ i _ => n - (intOf i).toNat)
  case atStart => exact ⟨0, (vry n).length, A3, c3, by omega, rfl, by simp [hBy], rfl, by simpa [hBy] using o3, b3⟩
  case round =>
    obtain ⟨j, m, A1, c1, hj, rfl, hm, rfl, o1, hB⟩ := hrel
    have HM := Lib.hid hm
    have hmb : m ≤ 900 := by
      rw [← hm, List.length_append]
      have h1 := (vry_len n).2
      have h2 := hBy_len (L.take j) 0
      have h3 : (L.take j).length ≤ 16 := by rw [List.length_take]; omega
      omega
    have hm1 : 1 ≤ m := by
      rw [← hm, List.length_append]
      have h1 := (vry_len n).1
      omega
    obtain ⟨l0, hl0⟩ : ∃ l0, vry n ++ hBy 0 (L.take j) = l0 := ⟨_, rfl⟩
    rw [hl0] at o1 HM
    have HL0 := Lib.hid hl0
    clear hm hl0
    have hzz := hB.size
    by_cases hlt : j < n
    · obtain ⟨ad, st, co, sp, df, pn, ky, hA, hab, hz, ⟨x1, x2, x3, x4, x5, x6⟩, c0, c1_, c2, c3, c4, c5⟩ := (HR.out.mv hB).at_ hlt
      subst hA
      have HZ := Lib.hid (hBy_take hz)
      have hsp := hdB_sp (show hdB j st co sp df pn ky = true from by have := hdsB_at HD.out hz; rwa [Nat.zero_add] at this)
      clear hz
      replace x1 : st < 256 := x1
      replace x2 : co < 18446744073709551616 := x2
      replace x3 : sp < 18446744073709551616 := x3
      replace x4 : df < 18446744073709551616 := x4
      replace x5 : pn < 18446744073709551616 := x5
      replace x6 : -9223372036854775808 ≤ ky ∧ ky ≤ 9223372036854775807 := x6
      obtain ⟨bs, hbs⟩ : ∃ bs, 16777216 * (j + 1) = bs := ⟨_, rfl⟩
      have HBC := Lib.hid (fun W => rbase27_any j W (by omega))
      rw [hbs] at HBC hsp
      obtain ⟨sz, hsz⟩ : ∃ sz, (sp - bs) / 8 = sz := ⟨_, rfl⟩
      obtain ⟨dq, hdq⟩ : ∃ dq, df / 8 = dq := ⟨_, rfl⟩
      obtain ⟨pq, hpq⟩ : ∃ pq, pn / 8 = pq := ⟨_, rfl⟩
      have HDL := Lib.hid (show hdL j (st, co, sp, df, pn, ky) = UInt8.ofNat st :: (vry co ++ (vry sz ++ (vry dq ++ (vry pq ++ vry (dbl ky))))) from by rw [hdL, hbs, hsz, hdq, hpq])
      have hqd : (df : Int) / 8 = (dq : Int) := by omega
      have hqp : (pn : Int) / 8 = (pq : Int) := by omega
      have hdq2 : dq < 18446744073709551616 := by omega
      have hpq2 : pq < 18446744073709551616 := by omega
      have hwd : IntKind.u64.wrap (dq : Int) = (dq : Int) := by rw [IntKind.wrap_u64]; omega
      have hwp : IntKind.u64.wrap (pq : Int) = (pq : Int) := by rw [IntKind.wrap_u64]; omega
      clear hdq hpq
      have hw1 : IntKind.u64.wrap ((sp : Int) - (bs : Int)) = ((sp - bs : Nat) : Int) := by rw [IntKind.wrap_u64]; omega
      have hq1 : ((sp - bs : Nat) : Int) / 8 = (sz : Int) := by rw [← hsz]; omega
      obtain ⟨sb, hsb⟩ : ∃ sb, sp - bs = sb := ⟨_, rfl⟩
      rw [hsb] at hw1 hq1
      have hsz2 : sz ≤ 512 := by omega
      have hwz : IntKind.u64.wrap (sz : Int) = (sz : Int) := by rw [IntKind.wrap_u64]; omega
      have HSB := Lib.hid (And.intro hsz (And.intro hsb hbs))
      clear hsz hsb hbs
      have hk := Blk.new wr 53 #[.int .u8 (st : Int), .int .u64 (co : Int), .int .u64 (sp : Int), .int .u64 (df : Int), .int .u64 (pn : Int), .int .i64 ky]
      have z0 : (wr.alloc (.cells #[.int .u8 (st : Int), .int .u64 (co : Int), .int .u64 (sp : Int), .int .u64 (df : Int), .int .u64 (pn : Int), .int .i64 ky] 53)).cell? ⟨wr.heap.size, 0, none⟩ = some (.int .u8 (st : Int)) := (hk.cell 0).trans rfl
      have z1 : (wr.alloc (.cells #[.int .u8 (st : Int), .int .u64 (co : Int), .int .u64 (sp : Int), .int .u64 (df : Int), .int .u64 (pn : Int), .int .i64 ky] 53)).cell? ⟨wr.heap.size, 1, none⟩ = some (.int .u64 (co : Int)) := (hk.cell 1).trans rfl
      have z2 : (wr.alloc (.cells #[.int .u8 (st : Int), .int .u64 (co : Int), .int .u64 (sp : Int), .int .u64 (df : Int), .int .u64 (pn : Int), .int .i64 ky] 53)).cell? ⟨wr.heap.size, 2, none⟩ = some (.int .u64 (sp : Int)) := (hk.cell 2).trans rfl
      have z3 : (wr.alloc (.cells #[.int .u8 (st : Int), .int .u64 (co : Int), .int .u64 (sp : Int), .int .u64 (df : Int), .int .u64 (pn : Int), .int .i64 ky] 53)).cell? ⟨wr.heap.size, 3, none⟩ = some (.int .u64 (df : Int)) := (hk.cell 3).trans rfl
      have z4 : (wr.alloc (.cells #[.int .u8 (st : Int), .int .u64 (co : Int), .int .u64 (sp : Int), .int .u64 (df : Int), .int .u64 (pn : Int), .int .i64 ky] 53)).cell? ⟨wr.heap.size, 4, none⟩ = some (.int .u64 (pn : Int)) := (hk.cell 4).trans rfl
      have z5 : (wr.alloc (.cells #[.int .u8 (st : Int), .int .u64 (co : Int), .int .u64 (sp : Int), .int .u64 (df : Int), .int .u64 (pn : Int), .int .i64 ky] 53)).cell? ⟨wr.heap.size, 5, none⟩ = some (.int .i64 ky) := (hk.cell 5).trans rfl
      have y0 : ∀ ob_, ((wr.alloc (.cells #[.int .u8 (st : Int), .int .u64 (co : Int), .int .u64 (sp : Int), .int .u64 (df : Int), .int .u64 (pn : Int), .int .i64 ky] 53)).alloc ob_).cell? ⟨wr.heap.size, 0, none⟩ = some (.int .u8 (st : Int)) := fun ob_ => ((Blk.alloc hk ob_).cell 0).trans rfl
      have hkA := hk.alloc (.cells #[.int .u8 (st : Int)] 5)
      have o1A := own_alloc_ (own_alloc_ o1 (.cells #[.int .u8 (st : Int), .int .u64 (co : Int), .int .u64 (sp : Int), .int .u64 (df : Int), .int .u64 (pn : Int), .int .i64 ky] 53)) (.cells #[.int .u8 (st : Int)] 5)
      have R8 := own_rd (own_byte (w := wr.alloc (.cells #[.int .u8 (st : Int), .int .u64 (co : Int), .int .u64 (sp : Int), .int .u64 (df : Int), .int .u64 (pn : Int), .int .i64 ky] 53)) (Nat.le_refl _) x1)
      rw [alloc_size] at R8
      have hBA := (hB.alloc hzz (.cells #[.int .u8 (st : Int), .int .u64 (co : Int), .int .u64 (sp : Int), .int .u64 (df : Int), .int .u64 (pn : Int), .int .i64 ky] 53)).alloc (by rw [alloc_size]; omega) (.cells #[.int .u8 (st : Int)] 5)
      go_wp2_with (at_builtin; refine wpList_app8g rfl (.tmp 20) (.tmp 23) _ (by rfl) sl8 w.heap.size (by rfl) o1A (by rfl) R8 (m + 1) rfl (by omega) hBA.size ?_; intro A5 d5 w5 o5 hg5 b5; have hk5 := hkA.grown hg5 (fun h => own_blk_ne o1A hkA (by decide) h.symm); have zz0 : w5.cell? ⟨wr.heap.size, 0, none⟩ = some (.int .u8 (st : Int)) := (hk5.cell 0).trans rfl; have zz1 : w5.cell? ⟨wr.heap.size, 1, none⟩ = some (.int .u64 (co : Int)) := (hk5.cell 1).trans rfl; have zz2 : w5.cell? ⟨wr.heap.size, 2, none⟩ = some (.int .u64 (sp : Int)) := (hk5.cell 2).trans rfl; have zz3 : w5.cell? ⟨wr.heap.size, 3, none⟩ = some (.int .u64 (df : Int)) := (hk5.cell 3).trans rfl; have zz4 : w5.cell? ⟨wr.heap.size, 4, none⟩ = some (.int .u64 (pn : Int)) := (hk5.cell 4).trans rfl; have zz5 : w5.cell? ⟨wr.heap.size, 5, none⟩ = some (.int .i64 ky) := (hk5.cell 5).trans rfl)
      clear zz0 zz1 zz2 zz3 zz4 zz5 z0 z1 z2 z3 z4 z5 y0 c0 c1_ c2 c3 c4 c5 hkA o1A R8 hk hg5 o1
      have hB5 := hBA.trans b5
      clear hBA b5 hB
      generalize wr.heap.size = p at *
      have ne_o5_hk5 := own_blk_ne o5 hk5 (by decide)
      have hB := hB5
      clear hB5
      obtain ⟨E5, hE5⟩ : ∃ E5, l0 ++ [UInt8.ofNat st] = E5 := ⟨_, rfl⟩
      rw [hE5] at o5
      have HE5 := Lib.hid hE5
      clear hE5
      have z1 := hk5.lt
      with_reducible refine (minimal_any co x2 _).mono ?_
      rintro e w1 ⟨A1, d1, rfl, t1, bB⟩
      have ne_t1_hk5 : (Value.slice A1 (vry co).length d1).ownBlock ≠ some p := own_not_lt t1 (by first | omega | (simp <;> omega))
      replace t1 := own_low t1 (show w.heap.size ≤ _ from by have hs_ := hB.size; simp <;> omega)
      replace hk5 := Blk.via0 (g := p) (t := 53) bB (by repeat (first | with_reducible exact hk5 | with_reducible (apply Blk.set_) | with_reducible (apply Blk.far; case hp => (simp <;> omega)) | with_reducible (apply Blk.alloc) | with_reducible (apply Blk.drew)))
      replace hk5 : Blk w1 p 53 #[.int .u8 (st : Int), .int .u64 (co : Int), .int .u64 (sp : Int), .int .u64 (df : Int), .int .u64 (pn : Int), .int .i64 ky] := hk5
      replace o5 := own_call (by repeat (first | with_reducible exact o5 | (with_reducible apply own_set_; case hne => first | exact ne_o5_hk5) | with_reducible (apply own_alloc_) | with_reducible (apply own_drew_))) bB
      replace hB := Below.via (w := w) (by have hs_ := hB.size; repeat (first | with_reducible exact hB | with_reducible (refine Below.setCell ?_ (by simp <;> omega) _) | with_reducible (refine Below.alloc ?_ (by first | exact hs_ | (simp <;> omega)) _) | with_reducible (refine Below.drew ?_))) bB
      clear z1
      clear bB
      obtain ⟨T1, hT1⟩ : ∃ T1, vry co = T1 := ⟨_, rfl⟩
      have ht1 : T1.length ≤ 10 := by rw [← hT1]; exact (vry_len _).2
      rw [hT1] at t1 ⊢
      have HT1 := Lib.hid hT1
      clear hT1
      obtain ⟨m1, hm1⟩ : ∃ m1, (m + 1) + T1.length = m1 := ⟨_, rfl⟩
      go_wp2_with (at_builtin; refine wpList_app8g rfl (.tmp 25) (.tmp 28) _ (by rfl) sl8 w.heap.size (by rfl) (by repeat (first | with_reducible exact o5 | (with_reducible apply own_set_; case hne => first | exact ne_o5_hk5) | with_reducible (apply own_alloc_) | with_reducible (apply own_drew_))) (by rfl) (own_rd t1) (m1) hm1 (by omega) (Below.size (by have hs_ := hB.size; repeat (first | with_reducible exact hB | with_reducible (refine Below.setCell ?_ (by simp <;> omega) _) | with_reducible (refine Below.alloc ?_ (by first | exact hs_ | (simp <;> omega)) _) | with_reducible (refine Below.drew ?_)))) ?_; intro B1 e1 v1 o1 hg_ b_; have nw_hk5 : Blk v1 p 53 #[.int .u8 (st : Int), .int .u64 (co : Int), .int .u64 (sp : Int), .int .u64 (df : Int), .int .u64 (pn : Int), .int .i64 ky] := Blk.grown (by repeat (first | with_reducible exact hk5 | with_reducible (apply Blk.set_) | with_reducible (apply Blk.far; case hp => (simp <;> omega)) | with_reducible (apply Blk.alloc) | with_reducible (apply Blk.drew))) hg_ (fun e_ => own_blk_ne (by repeat (first | with_reducible exact o5 | (with_reducible apply own_set_; case hne => first | exact ne_o5_hk5) | with_reducible (apply own_alloc_) | with_reducible (apply own_drew_))) (by repeat (first | with_reducible exact hk5 | with_reducible (apply Blk.set_) | with_reducible (apply Blk.far; case hp => (simp <;> omega)) | with_reducible (apply Blk.alloc) | with_reducible (apply Blk.drew))) (by decide) e_.symm); replace hB : Below w.heap.size w v1 := Below.trans (by have hs_ := hB.size; repeat (first | with_reducible exact hB | with_reducible (refine Below.setCell ?_ (by simp <;> omega) _) | with_reducible (refine Below.alloc ?_ (by first | exact hs_ | (simp <;> omega)) _) | with_reducible (refine Below.drew ?_))) b_; replace hk5 := nw_hk5; clear nw_hk5; clear hg_ b_; have ne_o1_hk5 := own_blk_ne o1 hk5 (by decide); obtain ⟨l1, hl1⟩ : ∃ l1, E5 ++ T1 = l1 := ⟨_, rfl⟩; rw [hl1] at o1; have HL1 := Lib.hid hl1; clear hl1; obtain ⟨g, rfl, hgb⟩ := own_head o1 (by omega))
      have hpg : p ≠ g := fun e => ne_o1_hk5 (by subst e; rfl)
      have z2 := hk5.lt
      refine bx_go (g) (by kernel_rfl) (fun hQ x b => ?_)
      replace hk5 := Blk.via0 (g := p) (t := 53) b (by repeat (first | with_reducible exact hk5 | with_reducible (apply Blk.set_) | with_reducible (apply Blk.far; case hp => (simp <;> omega)) | with_reducible (apply Blk.alloc) | with_reducible (apply Blk.drew)))
      replace hk5 : Blk x p 53 #[.int .u8 (st : Int), .int .u64 (co : Int), .int .u64 (sp : Int), .int .u64 (df : Int), .int .u64 (pn : Int), .int .i64 ky] := hk5
      replace o1 := own_call (by repeat (first | with_reducible exact o1 | (with_reducible apply own_set_; case hne => first | exact ne_o1_hk5) | with_reducible (apply own_alloc_) | with_reducible (apply own_drew_))) b
      replace hB := Below.via (w := w) (by have hs_ := hB.size; repeat (first | with_reducible exact hB | with_reducible (refine Below.setCell ?_ (by simp <;> omega) _) | with_reducible (refine Below.alloc ?_ (by first | exact hs_ | (simp <;> omega)) _) | with_reducible (refine Below.drew ?_))) b
      clear z2
      clear b
      obtain ⟨B_, hB_⟩ : ∃ B_, x.heap.size = B_ := ⟨_, rfl⟩
      rw [hB_]
      have hBx : B_ ≤ x.heap.size := Nat.le_of_eq hB_.symm
      have lB_hk5 := hk5.lt
      rw [hB_] at lB_hk5
      have HB_ := Lib.hid hB_
      clear hB_
      have X3 : ∀ W, BelowX B_ g x W → W.cell? ⟨p, 0, none⟩ = some (.int .u8 (st : Int)) := fun W h => ((hk5.belowx h lB_hk5 (by omega)).cell 0).trans rfl
      have X4 : ∀ W, BelowX B_ g x W → W.cell? ⟨p, 1, none⟩ = some (.int .u64 (co : Int)) := fun W h => ((hk5.belowx h lB_hk5 (by omega)).cell 1).trans rfl
      have X5 : ∀ W, BelowX B_ g x W → W.cell? ⟨p, 2, none⟩ = some (.int .u64 (sp : Int)) := fun W h => ((hk5.belowx h lB_hk5 (by omega)).cell 2).trans rfl
      have X6 : ∀ W, BelowX B_ g x W → W.cell? ⟨p, 3, none⟩ = some (.int .u64 (df : Int)) := fun W h => ((hk5.belowx h lB_hk5 (by omega)).cell 3).trans rfl
      have X7 : ∀ W, BelowX B_ g x W → W.cell? ⟨p, 4, none⟩ = some (.int .u64 (pn : Int)) := fun W h => ((hk5.belowx h lB_hk5 (by omega)).cell 4).trans rfl
      have X8 : ∀ W, BelowX B_ g x W → W.cell? ⟨p, 5, none⟩ = some (.int .i64 ky) := fun W h => ((hk5.belowx h lB_hk5 (by omega)).cell 5).trans rfl
      refine bx_take (i := 0) (oi := ?oia0) (v := ?va0) ?hia0 (by kernel_rfl) (by kernel_rfl) (by kernel_rfl) hQ ?hwa0 ?hya0 ?resta0
      case hia0 => simp only [List.getElem?_toArray, List.getElem?_cons_zero]; rfl
      case hwa0 => rfl
      case hya0 => intro W hW; go_simp; with_reducible rfl
      simp only [Act.put, List.setIfInBounds_toArray, List.set_cons_zero, List.set_cons_succ]
      refine bx_take (i := 1) (oi := ?oia1) (v := ?va1) ?hia1 (by kernel_rfl) (by kernel_rfl) (by kernel_rfl) hQ ?hwa1 ?hya1 ?resta1
      case hia1 => simp only [List.getElem?_toArray, List.getElem?_cons_zero, List.getElem?_cons_succ]; rfl
      case hwa1 => rfl
      case hya1 => intro W hW; go_simp; with_reducible rfl
      simp only [Act.put, List.setIfInBounds_toArray, List.set_cons_zero, List.set_cons_succ]
      refine bx_take (i := 2) (oi := ?oia2) (v := ?va2) ?hia2 (by kernel_rfl) (by kernel_rfl) (by kernel_rfl) hQ ?hwa2 ?hya2 ?resta2
      case hia2 => simp only [List.getElem?_toArray, List.getElem?_cons_zero, List.getElem?_cons_succ]; rfl
      case hwa2 => rfl
      case hya2 => intro W hW; go_simp; with_reducible rfl
      simp only [Act.put, List.setIfInBounds_toArray, List.set_cons_zero, List.set_cons_succ]
      refine bx_take (i := 3) (oi := ?oia3) (v := ?va3) ?hia3 (by kernel_rfl) (by kernel_rfl) (by kernel_rfl) hQ ?hwa3 ?hya3 ?resta3
      case hia3 => simp only [List.getElem?_toArray, List.getElem?_cons_zero, List.getElem?_cons_succ]; rfl
      case hwa3 => rfl
      case hya3 => intro W hW; go_simp; with_reducible rfl
      simp only [Act.put, List.setIfInBounds_toArray, List.set_cons_zero, List.set_cons_succ]
      refine bx_step (i := 4) (oi := ?oia4) (by kernel_rfl) ?hia4 ?hwa4 (fun K hK => ?_)
      case hia4 => simp only [List.getElem?_toArray, List.getElem?_cons_zero, List.getElem?_cons_succ]; rfl
      case hwa4 => rfl
      go_simp
      refine (HBC.out _).mono ?_; rintro e wq ⟨rfl, rfl⟩; refine hK _ _ (BelowX.refl _ _ _) ?_
      try simp only [Act.put, List.setIfInBounds_toArray, List.set_cons_zero, List.set_cons_succ]
      refine bx_take (i := 5) (oi := ?oia5) (v := ?va5) ?hia5 (by kernel_rfl) (by kernel_rfl) (by kernel_rfl) hQ ?hwa5 ?hya5 ?resta5
      case hia5 => simp only [List.getElem?_toArray, List.getElem?_cons_zero, List.getElem?_cons_succ]; rfl
      case hwa5 => rfl
      case hya5 => intro W hW; go_simp; with_reducible rfl
      simp only [Act.put, List.setIfInBounds_toArray, List.set_cons_zero, List.set_cons_succ]
      refine bx_take (i := 6) (oi := ?oia6) (v := ?va6) ?hia6 (by kernel_rfl) (by kernel_rfl) (by kernel_rfl) hQ ?hwa6 ?hya6 ?resta6
      case hia6 => simp only [List.getElem?_toArray, List.getElem?_cons_zero, List.getElem?_cons_succ]; rfl
      case hwa6 => rfl
      case hya6 => intro W hW; go_simp; with_reducible rfl
      simp only [Act.put, List.setIfInBounds_toArray, List.set_cons_zero, List.set_cons_succ]
      refine bx_step (i := 7) (oi := ?oia7) (by kernel_rfl) ?hia7 ?hwa7 (fun K hK => ?_)
      case hia7 => simp only [List.getElem?_toArray, List.getElem?_cons_zero, List.getElem?_cons_succ]; rfl
      case hwa7 => rfl
      go_simp
      clear X3 X4 X5 X6 X7 X8; refine (minimal_any sz (by omega) _).mono ?_; rintro e w2 ⟨A2, d2, rfl, t2, b⟩; replace hk5 := hk5.below b hk5.lt; replace o1 := own_call o1 b; have hzx := hB.size; replace hB := hB.trans (Below.mono b hzx); have bx := BelowX.of (Below.mono b hBx) (g); replace hBx := Nat.le_trans hBx b.size; refine hK _ _ bx ?_; clear b bx; obtain ⟨T2, hT2⟩ : ∃ T2, vry sz = T2 := ⟨_, rfl⟩; have ht2 : T2.length ≤ 10 := (by rw [← hT2]; exact (vry_len _).2); rw [hT2] at t2 ⊢; have HT2 := Lib.hid hT2; clear hT2; obtain ⟨m2, hm2⟩ : ∃ m2, m1 + T2.length = m2 := ⟨_, rfl⟩
      try simp only [Act.put, List.setIfInBounds_toArray, List.set_cons_zero, List.set_cons_succ]
      refine bx_step (i := 8) (oi := ?oia8) (by kernel_rfl) ?hia8 ?hwa8 (fun K hK => ?_)
      case hia8 => simp only [List.getElem?_toArray, List.getElem?_cons_zero, List.getElem?_cons_succ]; rfl
      case hwa8 => rfl
      (refine wp_app8g (.tmp 30) (.tmp 37) _ (by rfl) sl8 w.heap.size (by rfl) o1 (by rfl) (own_rd t2) m2 hm2 (by omega) hB.size ?_; intro B2 e2 v2 o2 hg2 b2; have hk7 := hk5.grown hg2 (fun e => hpg (by injection e)); replace hB := hB.trans b2; refine hK _ _ (BelowX.of_grown hg2 hBx) ?_)
      try simp only [Act.put, List.setIfInBounds_toArray, List.set_cons_zero, List.set_cons_succ]
      refine bx_take (i := 9) (oi := ?oia9) (v := ?va9) ?hia9 (by kernel_rfl) (by kernel_rfl) (by kernel_rfl) hQ ?hwa9 ?hya9 ?resta9
      case hia9 => simp only [List.getElem?_toArray, List.getElem?_cons_zero, List.getElem?_cons_succ]; rfl
      case hwa9 => rfl
      case hya9 => intro W hW; go_simp; with_reducible rfl
      simp only [Act.put, List.setIfInBounds_toArray, List.set_cons_zero, List.set_cons_succ]
      refine wpAnyH_done (by kernel_rfl) ?_ _
      simp only [NoP]
      clear HB_ hBx lB_hk5 hk5 o1 b2 hg2 ne_o1_hk5
      obtain ⟨l2, hl2⟩ : ∃ l2, l1 ++ T2 = l2 := ⟨_, rfl⟩
      rw [hl2] at o2
      have HL2 := Lib.hid hl2
      clear hl2
      have ne_o2_hk7 := own_blk_ne o2 hk7 (by decide)
      have z9 : v2.cell? ⟨p, 0, none⟩ = some (.int .u8 (st : Int)) := (hk7.cell 0).trans rfl
      have z10 := hk7.frozen 0
      have z11 : v2.cell? ⟨p, 1, none⟩ = some (.int .u64 (co : Int)) := (hk7.cell 1).trans rfl
      have z12 := hk7.frozen 1
      have z13 : v2.cell? ⟨p, 2, none⟩ = some (.int .u64 (sp : Int)) := (hk7.cell 2).trans rfl
      have z14 := hk7.frozen 2
      have z15 : v2.cell? ⟨p, 3, none⟩ = some (.int .u64 (df : Int)) := (hk7.cell 3).trans rfl
      have z16 := hk7.frozen 3
      have z17 : v2.cell? ⟨p, 4, none⟩ = some (.int .u64 (pn : Int)) := (hk7.cell 4).trans rfl
      have z18 := hk7.frozen 4
      have z19 : v2.cell? ⟨p, 5, none⟩ = some (.int .i64 ky) := (hk7.cell 5).trans rfl
      have z20 := hk7.frozen 5
      have z21 := hk7.lt
      go_wp2_with fail
      have z22 := hk7.lt
      with_reducible refine (minimal_any dq hdq2 _).mono ?_
      rintro e w3 ⟨A3, d3, rfl, t3, bB⟩
      have ne_t3_hk7 : (Value.slice A3 (vry dq).length d3).ownBlock ≠ some p := own_not_lt t3 (by first | omega | (simp <;> omega))
      replace t3 := own_low t3 (show w.heap.size ≤ _ from by have hs_ := hB.size; simp <;> omega)
      replace hk7 := Blk.via0 (g := p) (t := 53) bB (by repeat (first | with_reducible exact hk7 | with_reducible (apply Blk.set_) | with_reducible (apply Blk.far; case hp => (simp <;> omega)) | with_reducible (apply Blk.alloc) | with_reducible (apply Blk.drew)))
      replace hk7 : Blk w3 p 53 #[.int .u8 (st : Int), .int .u64 (co : Int), .int .u64 (sp : Int), .int .u64 (df : Int), .int .u64 (pn : Int), .int .i64 ky] := hk7
      replace o2 := own_call (by repeat (first | with_reducible exact o2 | (with_reducible apply own_set_; case hne => first | exact ne_o2_hk7) | with_reducible (apply own_alloc_) | with_reducible (apply own_drew_))) bB
      replace hB := Below.via (w := w) (by have hs_ := hB.size; repeat (first | with_reducible exact hB | with_reducible (refine Below.setCell ?_ (by simp <;> omega) _) | with_reducible (refine Below.alloc ?_ (by first | exact hs_ | (simp <;> omega)) _) | with_reducible (refine Below.drew ?_))) bB
      clear z9 z10 z11 z12 z13 z14 z15 z16 z17 z18 z19 z20 z21 z22
      clear bB
      obtain ⟨T3, hT3⟩ : ∃ T3, vry dq = T3 := ⟨_, rfl⟩
      have ht3 : T3.length ≤ 10 := by rw [← hT3]; exact (vry_len _).2
      rw [hT3] at t3 ⊢
      have HT3 := Lib.hid hT3
      clear hT3
      obtain ⟨m3, hm3⟩ : ∃ m3, m2 + T3.length = m3 := ⟨_, rfl⟩
      go_wp2_with (at_builtin; refine wpList_app8g rfl (.tmp 39) (.tmp 43) _ (by rfl) sl8 w.heap.size (by rfl) (by repeat (first | with_reducible exact o2 | (with_reducible apply own_set_; case hne => first | exact ne_o2_hk7) | with_reducible (apply own_alloc_) | with_reducible (apply own_drew_))) (by rfl) (own_rd t3) (m3) hm3 (by omega) (Below.size (by have hs_ := hB.size; repeat (first | with_reducible exact hB | with_reducible (refine Below.setCell ?_ (by simp <;> omega) _) | with_reducible (refine Below.alloc ?_ (by first | exact hs_ | (simp <;> omega)) _) | with_reducible (refine Below.drew ?_)))) ?_; intro B3 e3 v3 o3 hg_ b_; have nw_hk7 : Blk v3 p 53 #[.int .u8 (st : Int), .int .u64 (co : Int), .int .u64 (sp : Int), .int .u64 (df : Int), .int .u64 (pn : Int), .int .i64 ky] := Blk.grown (by repeat (first | with_reducible exact hk7 | with_reducible (apply Blk.set_) | with_reducible (apply Blk.far; case hp => (simp <;> omega)) | with_reducible (apply Blk.alloc) | with_reducible (apply Blk.drew))) hg_ (fun e_ => own_blk_ne (by repeat (first | with_reducible exact o2 | (with_reducible apply own_set_; case hne => first | exact ne_o2_hk7) | with_reducible (apply own_alloc_) | with_reducible (apply own_drew_))) (by repeat (first | with_reducible exact hk7 | with_reducible (apply Blk.set_) | with_reducible (apply Blk.far; case hp => (simp <;> omega)) | with_reducible (apply Blk.alloc) | with_reducible (apply Blk.drew))) (by decide) e_.symm); replace hB : Below w.heap.size w v3 := Below.trans (by have hs_ := hB.size; repeat (first | with_reducible exact hB | with_reducible (refine Below.setCell ?_ (by simp <;> omega) _) | with_reducible (refine Below.alloc ?_ (by first | exact hs_ | (simp <;> omega)) _) | with_reducible (refine Below.drew ?_))) b_; replace hk7 := nw_hk7; clear nw_hk7; clear hg_ b_; have ne_o3_hk7 := own_blk_ne o3 hk7 (by decide); obtain ⟨l3, hl3⟩ : ∃ l3, l2 ++ T3 = l3 := ⟨_, rfl⟩; rw [hl3] at o3; have HL3 := Lib.hid hl3; clear hl3; have z23 : v3.cell? ⟨p, 0, none⟩ = some (.int .u8 (st : Int)) := (hk7.cell 0).trans rfl; have z24 := hk7.frozen 0; have z25 : v3.cell? ⟨p, 1, none⟩ = some (.int .u64 (co : Int)) := (hk7.cell 1).trans rfl; have z26 := hk7.frozen 1; have z27 : v3.cell? ⟨p, 2, none⟩ = some (.int .u64 (sp : Int)) := (hk7.cell 2).trans rfl; have z28 := hk7.frozen 2; have z29 : v3.cell? ⟨p, 3, none⟩ = some (.int .u64 (df : Int)) := (hk7.cell 3).trans rfl; have z30 := hk7.frozen 3; have z31 : v3.cell? ⟨p, 4, none⟩ = some (.int .u64 (pn : Int)) := (hk7.cell 4).trans rfl; have z32 := hk7.frozen 4; have z33 : v3.cell? ⟨p, 5, none⟩ = some (.int .i64 ky) := (hk7.cell 5).trans rfl; have z34 := hk7.frozen 5; have z35 := hk7.lt)
      have z36 := hk7.lt
      with_reducible refine (minimal_any pq hpq2 _).mono ?_
      rintro e w4 ⟨A4, d4, rfl, t4, bB⟩
      have ne_t4_hk7 : (Value.slice A4 (vry pq).length d4).ownBlock ≠ some p := own_not_lt t4 (by first | omega | (simp <;> omega))
      replace t4 := own_low t4 (show w.heap.size ≤ _ from by have hs_ := hB.size; simp <;> omega)
      replace hk7 := Blk.via0 (g := p) (t := 53) bB (by repeat (first | with_reducible exact hk7 | with_reducible (apply Blk.set_) | with_reducible (apply Blk.far; case hp => (simp <;> omega)) | with_reducible (apply Blk.alloc) | with_reducible (apply Blk.drew)))
      replace hk7 : Blk w4 p 53 #[.int .u8 (st : Int), .int .u64 (co : Int), .int .u64 (sp : Int), .int .u64 (df : Int), .int .u64 (pn : Int), .int .i64 ky] := hk7
      replace o3 := own_call (by repeat (first | with_reducible exact o3 | (with_reducible apply own_set_; case hne => first | exact ne_o3_hk7) | with_reducible (apply own_alloc_) | with_reducible (apply own_drew_))) bB
      replace hB := Below.via (w := w) (by have hs_ := hB.size; repeat (first | with_reducible exact hB | with_reducible (refine Below.setCell ?_ (by simp <;> omega) _) | with_reducible (refine Below.alloc ?_ (by first | exact hs_ | (simp <;> omega)) _) | with_reducible (refine Below.drew ?_))) bB
      clear z23 z24 z25 z26 z27 z28 z29 z30 z31 z32 z33 z34 z35 z36
      clear bB
      obtain ⟨T4, hT4⟩ : ∃ T4, vry pq = T4 := ⟨_, rfl⟩
      have ht4 : T4.length ≤ 10 := by rw [← hT4]; exact (vry_len _).2
      rw [hT4] at t4 ⊢
      have HT4 := Lib.hid hT4
      clear hT4
      obtain ⟨m4, hm4⟩ : ∃ m4, m3 + T4.length = m4 := ⟨_, rfl⟩
      go_wp2_with (at_builtin; refine wpList_app8g rfl (.tmp 45) (.tmp 49) _ (by rfl) sl8 w.heap.size (by rfl) (by repeat (first | with_reducible exact o3 | (with_reducible apply own_set_; case hne => first | exact ne_o3_hk7) | with_reducible (apply own_alloc_) | with_reducible (apply own_drew_))) (by rfl) (own_rd t4) (m4) hm4 (by omega) (Below.size (by have hs_ := hB.size; repeat (first | with_reducible exact hB | with_reducible (refine Below.setCell ?_ (by simp <;> omega) _) | with_reducible (refine Below.alloc ?_ (by first | exact hs_ | (simp <;> omega)) _) | with_reducible (refine Below.drew ?_)))) ?_; intro B4 e4 v4 o4 hg_ b_; have nw_hk7 : Blk v4 p 53 #[.int .u8 (st : Int), .int .u64 (co : Int), .int .u64 (sp : Int), .int .u64 (df : Int), .int .u64 (pn : Int), .int .i64 ky] := Blk.grown (by repeat (first | with_reducible exact hk7 | with_reducible (apply Blk.set_) | with_reducible (apply Blk.far; case hp => (simp <;> omega)) | with_reducible (apply Blk.alloc) | with_reducible (apply Blk.drew))) hg_ (fun e_ => own_blk_ne (by repeat (first | with_reducible exact o3 | (with_reducible apply own_set_; case hne => first | exact ne_o3_hk7) | with_reducible (apply own_alloc_) | with_reducible (apply own_drew_))) (by repeat (first | with_reducible exact hk7 | with_reducible (apply Blk.set_) | with_reducible (apply Blk.far; case hp => (simp <;> omega)) | with_reducible (apply Blk.alloc) | with_reducible (apply Blk.drew))) (by decide) e_.symm); replace hB : Below w.heap.size w v4 := Below.trans (by have hs_ := hB.size; repeat (first | with_reducible exact hB | with_reducible (refine Below.setCell ?_ (by simp <;> omega) _) | with_reducible (refine Below.alloc ?_ (by first | exact hs_ | (simp <;> omega)) _) | with_reducible (refine Below.drew ?_))) b_; replace hk7 := nw_hk7; clear nw_hk7; clear hg_ b_; have ne_o4_hk7 := own_blk_ne o4 hk7 (by decide); obtain ⟨l4, hl4⟩ : ∃ l4, l3 ++ T4 = l4 := ⟨_, rfl⟩; rw [hl4] at o4; have HL4 := Lib.hid hl4; clear hl4; have z37 : v4.cell? ⟨p, 0, none⟩ = some (.int .u8 (st : Int)) := (hk7.cell 0).trans rfl; have z38 := hk7.frozen 0; have z39 : v4.cell? ⟨p, 1, none⟩ = some (.int .u64 (co : Int)) := (hk7.cell 1).trans rfl; have z40 := hk7.frozen 1; have z41 : v4.cell? ⟨p, 2, none⟩ = some (.int .u64 (sp : Int)) := (hk7.cell 2).trans rfl; have z42 := hk7.frozen 2; have z43 : v4.cell? ⟨p, 3, none⟩ = some (.int .u64 (df : Int)) := (hk7.cell 3).trans rfl; have z44 := hk7.frozen 3; have z45 : v4.cell? ⟨p, 4, none⟩ = some (.int .u64 (pn : Int)) := (hk7.cell 4).trans rfl; have z46 := hk7.frozen 4; have z47 : v4.cell? ⟨p, 5, none⟩ = some (.int .i64 ky) := (hk7.cell 5).trans rfl; have z48 := hk7.frozen 5; have z49 := hk7.lt)
      have z50 := hk7.lt
      with_reducible refine (rsigned_any ky _ (by omega)).mono ?_
      rintro e w6 ⟨A6, d6, rfl, t6, bB⟩
      have ne_t6_hk7 : (Value.slice A6 (vry (dbl ky)).length d6).ownBlock ≠ some p := own_not_lt t6 (by first | omega | (simp <;> omega))
      replace t6 := own_low t6 (show w.heap.size ≤ _ from by have hs_ := hB.size; simp <;> omega)
      replace hk7 := Blk.via0 (g := p) (t := 53) bB (by repeat (first | with_reducible exact hk7 | with_reducible (apply Blk.set_) | with_reducible (apply Blk.far; case hp => (simp <;> omega)) | with_reducible (apply Blk.alloc) | with_reducible (apply Blk.drew)))
      replace hk7 : Blk w6 p 53 #[.int .u8 (st : Int), .int .u64 (co : Int), .int .u64 (sp : Int), .int .u64 (df : Int), .int .u64 (pn : Int), .int .i64 ky] := hk7
      replace o4 := own_call (by repeat (first | with_reducible exact o4 | (with_reducible apply own_set_; case hne => first | exact ne_o4_hk7) | with_reducible (apply own_alloc_) | with_reducible (apply own_drew_))) bB
      replace hB := Below.via (w := w) (by have hs_ := hB.size; repeat (first | with_reducible exact hB | with_reducible (refine Below.setCell ?_ (by simp <;> omega) _) | with_reducible (refine Below.alloc ?_ (by first | exact hs_ | (simp <;> omega)) _) | with_reducible (refine Below.drew ?_))) bB
      clear z37 z38 z39 z40 z41 z42 z43 z44 z45 z46 z47 z48 z49 z50
      clear bB
      obtain ⟨T6, hT6⟩ : ∃ T6, vry (dbl ky) = T6 := ⟨_, rfl⟩
      have ht6 : T6.length ≤ 10 := by rw [← hT6]; exact (vry_len _).2
      rw [hT6] at t6 ⊢
      have HT6 := Lib.hid hT6
      clear hT6
      obtain ⟨m6, hm6⟩ : ∃ m6, m4 + T6.length = m6 := ⟨_, rfl⟩
      go_wp2_with (at_builtin; refine wpList_app8g rfl (.tmp 51) (.tmp 54) _ (by rfl) sl8 w.heap.size (by rfl) (by repeat (first | with_reducible exact o4 | (with_reducible apply own_set_; case hne => first | exact ne_o4_hk7) | with_reducible (apply own_alloc_) | with_reducible (apply own_drew_))) (by rfl) (own_rd t6) (m6) hm6 (by omega) (Below.size (by have hs_ := hB.size; repeat (first | with_reducible exact hB | with_reducible (refine Below.setCell ?_ (by simp <;> omega) _) | with_reducible (refine Below.alloc ?_ (by first | exact hs_ | (simp <;> omega)) _) | with_reducible (refine Below.drew ?_)))) ?_; intro B6 e6 v6 o6 hg_ b_; have nw_hk7 : Blk v6 p 53 #[.int .u8 (st : Int), .int .u64 (co : Int), .int .u64 (sp : Int), .int .u64 (df : Int), .int .u64 (pn : Int), .int .i64 ky] := Blk.grown (by repeat (first | with_reducible exact hk7 | with_reducible (apply Blk.set_) | with_reducible (apply Blk.far; case hp => (simp <;> omega)) | with_reducible (apply Blk.alloc) | with_reducible (apply Blk.drew))) hg_ (fun e_ => own_blk_ne (by repeat (first | with_reducible exact o4 | (with_reducible apply own_set_; case hne => first | exact ne_o4_hk7) | with_reducible (apply own_alloc_) | with_reducible (apply own_drew_))) (by repeat (first | with_reducible exact hk7 | with_reducible (apply Blk.set_) | with_reducible (apply Blk.far; case hp => (simp <;> omega)) | with_reducible (apply Blk.alloc) | with_reducible (apply Blk.drew))) (by decide) e_.symm); replace hB : Below w.heap.size w v6 := Below.trans (by have hs_ := hB.size; repeat (first | with_reducible exact hB | with_reducible (refine Below.setCell ?_ (by simp <;> omega) _) | with_reducible (refine Below.alloc ?_ (by first | exact hs_ | (simp <;> omega)) _) | with_reducible (refine Below.drew ?_))) b_; replace hk7 := nw_hk7; clear nw_hk7; clear hg_ b_; have ne_o6_hk7 := own_blk_ne o6 hk7 (by decide); obtain ⟨l6, hl6⟩ : ∃ l6, l4 ++ T6 = l6 := ⟨_, rfl⟩; rw [hl6] at o6; have HL6 := Lib.hid hl6; clear hl6)
      go_roundw
      case rel =>
        have he : vry n ++ hBy 0 (L.take (j + 1)) = l6 := by
          rw [HZ.out, ← List.append_assoc, HL0.out, HDL.out, HT1.out, HT2.out, HT3.out, HT4.out, HT6.out, ← HL6.out, ← HL4.out, ← HL3.out, ← HL2.out, ← HL1.out, ← HE5.out]; simp
        exact ⟨j + 1, m6, B6, e6, by omega, by go_num, by rw [he]; have := o6.1; simpa using this, rfl, by rw [he]; exact o6, hB⟩
      case measure => simp [intOf]; omega
    · obtain rfl : j = n := by omega
      have hll : l0 = hsL L := by rw [← HL0.out, List.take_of_length_le (by rw [HN.out]; omega), hsL, HN.out]
      have hlm : m = (hsL L).length := by rw [← hll]; exact HM.out.symm
      subst hlm
      go_wp2_with fail
      go_ret
      exact ⟨A1, c1, rfl, by rw [← hll]; rw [← hll] at o1; exact o1, hB⟩

set_option maxRecDepth 100000 in
set_option maxHeartbeats 3200000 in
theorem rewriteHeads_any (A : Option Addr) (n c : Nat) (L : List Rtn) (w : World) (hr : RdT w A n L) :
    Calls Try.prog 21 #[.slice A n c] w fun e w' => ∃ A' c', e = .returned (.tuple #[.slice A' (whsL L).length c', .int .i64 (whsE L)]) ∧ w'.ownsRow w.heap.size 5 1 (.slice A' (whsL L).length c') (whsL L).length ((whsL L).map b8) ∧ Below w.heap.size w w' := by
  have HR := Lib.hid hr
  clear hr
  cases hh : hsB L
  · have HV := Lib.hid (show whsL L = [] ∧ whsE L = 8 from by simp [whsL, whsE, hh])
    have HH := Lib.hid hh
    clear hh
    go_enter Try.func21, Try.ntmps21
    go_wp2_with fail
    refine (heads27_any A n c L _ HR.out).mono ?_
    rintro e w1 ⟨rfl, b1⟩
    rw [HH.out]
    go_wp2_with fail
    go_ret2
    exact ⟨none, 0, by rw [HV.out.1, HV.out.2]; rfl, by rw [HV.out.1]; exact World.ownsRow_nil _ _ _ _, b1⟩
  have HV := Lib.hid (show whsL L = hsL L ∧ whsE L = 0 from by simp [whsL, whsE, hh])
  have HH := Lib.hid hh
  clear hh
  go_enter Try.func21, Try.ntmps21
  go_wp2_with fail
  refine (heads27_any A n c L _ HR.out).mono ?_
  rintro e w1 ⟨rfl, b1⟩
  rw [HH.out]
  go_wp2_with fail
  refine (headBytes_any A n c L _ (HR.out.mv b1) HH.out).mono ?_
  rintro e w2 ⟨A2, c2, rfl, o2, b2⟩
  obtain ⟨E, hE⟩ : ∃ E, hsL L = E := ⟨_, rfl⟩
  rw [hE] at o2 HV ⊢
  go_wp2_with fail
  go_ret2
  exact ⟨A2, c2, by rw [HV.out.1, HV.out.2]; rfl, by rw [HV.out.1]; exact own_low o2 b1.size, b1.trans (b2.mono b1.size)⟩

end Go.Proofs.Ytljpggebpfpelaa
