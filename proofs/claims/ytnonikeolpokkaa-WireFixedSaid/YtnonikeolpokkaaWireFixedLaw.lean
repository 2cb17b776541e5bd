/- The walk of WireFixed: it returns true for every number and width. -/
import Derived.Test.YtnonikeolpokkaaWireAlive
import Derived.Test.YtnonikeolpokkaaRegion
namespace Go.Proofs.Ytnonikeolpokkaa
open Go.RowKit Wire
set_option linter.unusedVariables false

theorem ltl_half (h n : Nat) : ltl (h + h) n = ltl h (n % 256 ^ h) ++ ltl h (n / 256 ^ h) := by
  have h0 : 0 < 256 ^ h := Nat.pow_pos (by omega)
  have e : ∀ w m, ltl (w + h) m = ltl w m ++ ltl h (m / 256 ^ w) := by
    intro w
    induction w with
    | zero => intro m; simp [ltl]
    | succ w ih => intro m; rw [show w + 1 + h = (w + h) + 1 from by omega]; simp only [ltl, List.cons_append, ih, Nat.div_div_eq_div_mul, ← Nat.pow_succ']
  rw [e h n]
  congr 1
  have e2 : ∀ w m, ltl w m = ltl w (m % 256 ^ w) := by
    intro w
    induction w with
    | zero => intro m; rfl
    | succ w ih =>
      intro m
      have h1 : m % 256 ^ (w + 1) % 256 = m % 256 := by rw [Nat.pow_succ, Nat.mod_mul_left_mod]
      have h2 : m % 256 ^ (w + 1) / 256 = m / 256 % 256 ^ w := by rw [Nat.pow_succ', Nat.mod_mul_right_div_self]
      simp only [ltl, h1, h2]
      rw [← ih]
  exact e2 h n

set_option maxRecDepth 100000 in
set_option maxHeartbeats 4000000 in
theorem wireFixed_walk (w : World) (n : Nat) (hn : n < 18446744073709551616) (a : Int) (ha : -9223372036854775808 ≤ a ∧ a ≤ 9223372036854775807) :
    Calls Try.prog 4 #[.int .u64 (n : Int), .int .i64 a] w fun e w' => e = .returned (.bool true) ∧ Below w.heap.size w w' := by
  have HF := Lib.hid (fixed_any n a ha hn w)
  cases hw : wdB a
  · obtain ⟨hL, hE⟩ := fx_no (n := n) (a := a) (by simp [fxB, hw])
    rw [hL, hE] at HF
    have HW := Lib.hid hw
    clear hw hL hE
    go_enter Try.func4, Try.ntmps4
    go_wp2_with fail
    refine HF.out.mono ?_
    rintro e w1 ⟨A1, c1, rfl, o1, b1⟩
    go_wp2_with (first
      | (go_at_call 22; refine (Wide_any _ _).mono ?_; rintro e w2 ⟨rfl, rfl⟩; rw [HW.out])
      | (go_at_call 23; refine (alive_any _).mono ?_; rintro e w7 ⟨rfl, hb7⟩))
    go_ret
    exact ⟨rfl, b1.trans (hb7.mono b1.size)⟩
  · have HW := Lib.hid hw
    obtain ⟨k, hk, rfl⟩ : ∃ k : Nat, (k = 1 ∨ k = 2 ∨ k = 4 ∨ k = 8) ∧ a = (k : Int) := by
      rcases wdB_of hw with rfl | rfl | rfl | rfl
      · exact ⟨1, by simp, rfl⟩
      · exact ⟨2, by simp, rfl⟩
      · exact ⟨4, by simp, rfl⟩
      · exact ⟨8, by simp, rfl⟩
    have hfx : fxB n (k : Int) = decide (n < 256 ^ k) := by simp [fxB, hw]
    clear hw ha
    by_cases hfit : n < 256 ^ k
    · obtain ⟨hL, hE⟩ := fx_yes (hfx.trans (by simpa using hfit))
      rw [hL, hE, Int.toNat_natCast, ltl_len] at HF
      clear hL hE hfx
      rcases hk with rfl | rfl | rfl | rfl
      · have d1 : decide ((0 : Int) < (n : Int) / 256) = false := by simp; omega
        have hv : n % 256 = n := Nat.mod_eq_of_lt hfit
        go_enter Try.func4, Try.ntmps4
        go_wp2_with fail
        refine HF.out.mono ?_
        rintro e w1 ⟨A1, c1, rfl, o1, b1⟩
        obtain ⟨ad, y, rfl, hyb, hy, hcy⟩ := (own_reads o1).byte (show 0 < 1 from by omega)
        have hyy : (y.toNat : Int) = (n : Int) := by
          rw [ltl_get (by omega)] at hy
          injection hy with hy
          rw [← hy, UInt8.toNat_ofNat']; simp; omega
        have hcz : w1.cell? ad = some (.int .u8 (n : Int)) := by
          have : ad.add 0 = ad := by simp [Addr.add]
          rw [this] at hcy
          rw [hcy, hyy]
        clear hcy hyy hy
        clear HW HF
        go_wp2_with (first
          | (go_at_call 22; refine (Wide_yes _ (by decide) _).mono ?_; rintro e w2 ⟨rfl, rfl⟩)
          | (go_at_call 23; refine (alive_any _).mono ?_; rintro e w7 ⟨rfl, hb7⟩))
        go_ret
        exact ⟨rfl, b1.trans (hb7.mono b1.size)⟩
      · have d1 : decide ((0 : Int) < (n : Int) / 65536) = false := by simp; omega
        have e1 := Lib.hid (show (n : Int) % 256 = ((n % 256 : Nat) : Int) from by omega)
        have e2 := Lib.hid (show (n : Int) / 256 = ((n / 256 : Nat) : Int) from by omega)
        have HF1 := Lib.hid (fun W => fixed_any (n % 256) 1 (by omega) (by omega) W)
        have HF2 := Lib.hid (fun W => fixed_any (n / 256) 1 (by omega) (by omega) W)
        rw [show fxL (n % 256) 1 = ltl 1 (n % 256) from (fx_yes (by simp [fxB, wdB]; omega)).1, show fxE (n % 256) 1 = 0 from (fx_yes (by simp [fxB, wdB]; omega)).2, ltl_len] at HF1
        rw [show fxL (n / 256) 1 = ltl 1 (n / 256) from (fx_yes (by simp [fxB, wdB]; omega)).1, show fxE (n / 256) 1 = 0 from (fx_yes (by simp [fxB, wdB]; omega)).2, ltl_len] at HF2
        have HS := Lib.hid (ltl_half 1 n)
        go_enter Try.func4, Try.ntmps4
        go_wp2_with fail
        refine HF.out.mono ?_
        rintro e w1 ⟨A1, c1, rfl, o1, b1⟩
        have R1 := own_reads o1
        clear o1 HF
        go_wp2_with (first
          | (go_at_call 22; refine (Wide_yes _ (by decide) _).mono ?_; rintro e w2 ⟨rfl, rfl⟩)
          | (go_at_call 23; refine (alive_any _).mono ?_; rintro e w7 ⟨rfl, hb7⟩))
        rw [e1.out]
        refine (HF1.out _).mono ?_
        rintro e w2 ⟨A2, c2, rfl, o2, b2⟩
        have R2 := own_reads o2
        replace R1 := R1.mv b2
        clear o2
        go_wp2_with fail
        rw [e2.out]
        refine (HF2.out _).mono ?_
        rintro e w3 ⟨A3, c3, rfl, o3, b3⟩
        have R3 := own_reads o3
        replace R1 := R1.mv b3
        replace R2 := R2.mv b3
        have hB := b1.trans ((b2.trans (b3.mono b2.size)).mono b1.size)
        clear o3 b1 b2 b3 HF1 HF2
        go_wp2_with fail
        refine ext_start (by kernel_rfl) (calm_then calm_body) (fun hQ => ?_)
        have xd : Below w3.heap.size w3 w3.drew := (Ext.refl w3).draw
        replace R1 := R1.mv xd
        replace R2 := R2.mv xd
        replace R3 := R3.mv xd
        replace hB := hB.trans (xd.mono hB.size)
        clear xd
        generalize w3.drew = wd at *
        have K1 : ∀ W, Ext wd W → CvS A1 2 c1 (ltl 2 n) W := fun W h => cvS c1 (Reads.below R1 h)
        clear R1
        refine ext_take (i := 0) (oi := ?oia0) (v := ?va0) ?hia0 (by kernel_rfl) (by kernel_rfl) (by kernel_rfl) hQ ?hwa0 ?hya0 ?resta0
        case hia0 => simp only [List.getElem?_toArray, List.getElem?_cons_zero]; rfl
        case hwa0 => rfl
        case hya0 => intro W hW; go_simp; with_reducible rfl
        simp only [Act.put, List.setIfInBounds_toArray, List.set_cons_zero, List.set_cons_succ]
        refine ext_take (i := 1) (oi := ?oia1) (v := ?va1) ?hia1 (by kernel_rfl) (by kernel_rfl) (by kernel_rfl) hQ ?hwa1 ?hya1 ?resta1
        case hia1 => simp only [List.getElem?_toArray, List.getElem?_cons_zero, List.getElem?_cons_succ]; rfl
        case hwa1 => rfl
        case hya1 => intro W hW; go_simp; with_reducible rfl
        simp only [Act.put, List.setIfInBounds_toArray, List.set_cons_zero, List.set_cons_succ]
        refine ext_take (i := 2) (oi := ?oia2) (v := ?va2) ?hia2 (by kernel_rfl) (by kernel_rfl) (by kernel_rfl) hQ ?hwa2 ?hya2 ?resta2
        case hia2 => simp only [List.getElem?_toArray, List.getElem?_cons_zero, List.getElem?_cons_succ]; rfl
        case hwa2 => rfl
        case hya2 => intro W hW; go_simp; with_reducible rfl
        simp only [Act.put, List.setIfInBounds_toArray, List.set_cons_zero, List.set_cons_succ]
        refine ext_take (i := 3) (oi := ?oia3) (v := ?va3) ?hia3 (by kernel_rfl) (by kernel_rfl) (by kernel_rfl) hQ ?hwa3 ?hya3 ?resta3
        case hia3 => simp only [List.getElem?_toArray, List.getElem?_cons_zero, List.getElem?_cons_succ]; rfl
        case hwa3 => rfl
        case hya3 => intro W hW; go_simp; with_reducible rfl
        simp only [Act.put, List.setIfInBounds_toArray, List.set_cons_zero, List.set_cons_succ]
        refine ext_take (i := 4) (oi := ?oia4) (v := ?va4) ?hia4 (by kernel_rfl) (by kernel_rfl) (by kernel_rfl) hQ ?hwa4 ?hya4 ?resta4
        case hia4 => simp only [List.getElem?_toArray, List.getElem?_cons_zero, List.getElem?_cons_succ]; rfl
        case hwa4 => rfl
        case hya4 => intro W hW; go_simp; with_reducible rfl
        simp only [Act.put, List.setIfInBounds_toArray, List.set_cons_zero, List.set_cons_succ]
        refine ext_take (i := 5) (oi := ?oia5) (v := ?va5) ?hia5 (by kernel_rfl) (by kernel_rfl) (by kernel_rfl) hQ ?hwa5 ?hya5 ?resta5
        case hia5 => simp only [List.getElem?_toArray, List.getElem?_cons_zero, List.getElem?_cons_succ]; rfl
        case hwa5 => rfl
        case hya5 => intro W hW; go_simp; with_reducible rfl
        simp only [Act.put, List.setIfInBounds_toArray, List.set_cons_zero, List.set_cons_succ]
        refine ext_take (i := 6) (oi := ?oia6) (v := ?va6) ?hia6 (by kernel_rfl) (by kernel_rfl) (by kernel_rfl) hQ ?hwa6 ?hya6 ?resta6
        case hia6 => simp only [List.getElem?_toArray, List.getElem?_cons_zero, List.getElem?_cons_succ]; rfl
        case hwa6 => rfl
        case hya6 => intro W hW; go_simp; with_reducible rfl
        simp only [Act.put, List.setIfInBounds_toArray, List.set_cons_zero, List.set_cons_succ]
        refine ext_take (i := 7) (oi := ?oia7) (v := ?va7) ?hia7 (by kernel_rfl) (by kernel_rfl) (by kernel_rfl) hQ ?hwa7 ?hya7 ?resta7
        case hia7 => simp only [List.getElem?_toArray, List.getElem?_cons_zero, List.getElem?_cons_succ]; rfl
        case hwa7 => rfl
        case hya7 => intro W hW; go_simp; with_reducible rfl
        simp only [Act.put, List.setIfInBounds_toArray, List.set_cons_zero, List.set_cons_succ]
        refine ext_take (i := 8) (oi := ?oia8) (v := ?va8) ?hia8 (by kernel_rfl) (by kernel_rfl) (by kernel_rfl) hQ ?hwa8 ?hya8 ?resta8
        case hia8 => simp only [List.getElem?_toArray, List.getElem?_cons_zero, List.getElem?_cons_succ]; rfl
        case hwa8 => rfl
        case hya8 => intro W hW; go_simp; with_reducible rfl
        simp only [Act.put, List.setIfInBounds_toArray, List.set_cons_zero, List.set_cons_succ]
        refine ext_take (i := 10) (oi := ?oia10) (v := ?va10) ?hia10 (by kernel_rfl) (by kernel_rfl) (by kernel_rfl) hQ ?hwa10 ?hya10 ?resta10
        case hia10 => simp only [List.getElem?_toArray, List.getElem?_cons_zero, List.getElem?_cons_succ]; rfl
        case hwa10 => rfl
        case hya10 => intro W hW; go_simp; with_reducible rfl
        simp only [Act.put, List.setIfInBounds_toArray, List.set_cons_zero, List.set_cons_succ]
        refine ext_take (i := 12) (oi := ?oia12) (v := ?va12) ?hia12 (by kernel_rfl) (by kernel_rfl) (by kernel_rfl) hQ ?hwa12 ?hya12 ?resta12
        case hia12 => simp only [List.getElem?_toArray, List.getElem?_cons_zero, List.getElem?_cons_succ]; rfl
        case hwa12 => rfl
        case hya12 => intro W hW; go_simp; with_reducible rfl
        simp only [Act.put, List.setIfInBounds_toArray, List.set_cons_zero, List.set_cons_succ]
        refine exb_step (i := 9) (oi := ?oia9) (by kernel_rfl) ?hia9 ?hwa9 (fun K hK => ?_)
        case hia9 => simp only [List.getElem?_toArray, List.getElem?_cons_zero, List.getElem?_cons_succ]; rfl
        case hwa9 => rfl
        go_simp
        refine hK wd.heap.size _ _ (Nat.le_refl _) (Ext.al _ _) ?_; have oe := own_empty wd (Nat.le_refl _) 5 1; replace R2 := R2.alloc (Nat.le_refl _) (.cells #[] 5); replace R3 := R3.alloc (Nat.le_refl _) (.cells #[] 5); have x1 := Ext.al wd (.cells #[] 5); generalize wd.alloc (.cells #[] 5) = we at *
        try simp only [Act.put, List.setIfInBounds_toArray, List.set_cons_zero, List.set_cons_succ]
        refine exb_step (i := 11) (oi := ?oia11) (by kernel_rfl) ?hia11 ?hwa11 (fun K hK => ?_)
        case hia11 => simp only [List.getElem?_toArray, List.getElem?_cons_zero, List.getElem?_cons_succ]; rfl
        case hwa11 => rfl
        refine wp_app0 (.tmp 94) (.tmp 95) _ rfl sl8 wd.heap.size _ rfl oe _ A2 1 c2 ((ltl 1 (n % 256)).map b8) rfl R2 (b8_one _) (by omega) (Below.size x1) ?_; intro A5 c5 w5 o5 b5 hc5; replace R3 := R3.below b5; refine hK wd.heap.size _ _ (Nat.le_refl _) b5 ?_
        try simp only [Act.put, List.setIfInBounds_toArray, List.set_cons_zero, List.set_cons_succ]
        refine exb_step (i := 13) (oi := ?oia13) (by kernel_rfl) ?hia13 ?hwa13 (fun K hK => ?_)
        case hia13 => simp only [List.getElem?_toArray, List.getElem?_cons_zero, List.getElem?_cons_succ]; rfl
        case hwa13 => rfl
        refine wp_app (.tmp 96) (.tmp 97) _ rfl sl8 wd.heap.size _ 1 _ rfl o5 _ A3 1 c3 ((ltl 1 (n / 256)).map b8) rfl R3 (b8_one _) (by omega) (Nat.le_trans (Below.size x1) b5.size) ?_; intro A6 c6 w6 o6 g6 b6 hc6; rw [← List.map_append, ← HS.out] at o6; have R6 := own_reads o6; have K6 : ∀ W, Ext w6 W → CvS A6 2 c6 (ltl 2 n) W := fun W h => cvS c6 (Reads.below R6 h); refine hK w6.heap.size _ _ (Nat.le_trans (Nat.le_trans (Below.size x1) b5.size) b6.size) b6 ?_
        try simp only [Act.put, List.setIfInBounds_toArray, List.set_cons_zero, List.set_cons_succ]
        refine ext_take (i := 14) (oi := ?oia14) (v := ?va14) ?hia14 (by kernel_rfl) (by kernel_rfl) (by kernel_rfl) hQ ?hwa14 ?hya14 ?resta14
        case hia14 => simp only [List.getElem?_toArray, List.getElem?_cons_zero, List.getElem?_cons_succ]; rfl
        case hwa14 => rfl
        case hya14 => intro W hW; go_simp; with_reducible rfl
        simp only [Act.put, List.setIfInBounds_toArray, List.set_cons_zero, List.set_cons_succ]
        refine ext_take (i := 15) (oi := ?oia15) (v := ?va15) ?hia15 (by kernel_rfl) (by kernel_rfl) (by kernel_rfl) hQ ?hwa15 ?hya15 ?resta15
        case hia15 => simp only [List.getElem?_toArray, List.getElem?_cons_zero, List.getElem?_cons_succ]; rfl
        case hwa15 => rfl
        case hya15 => intro W hW; go_simp; with_reducible rfl
        simp only [Act.put, List.setIfInBounds_toArray, List.set_cons_zero, List.set_cons_succ]
        refine ext_take (i := 16) (oi := ?oia16) (v := ?va16) ?hia16 (by kernel_rfl) (by kernel_rfl) (by kernel_rfl) hQ ?hwa16 ?hya16 ?resta16
        case hia16 => simp only [List.getElem?_toArray, List.getElem?_cons_zero, List.getElem?_cons_succ]; rfl
        case hwa16 => rfl
        case hya16 => intro W hW; go_simp; with_reducible rfl
        simp only [Act.put, List.setIfInBounds_toArray, List.set_cons_zero, List.set_cons_succ]
        refine ext_take (i := 17) (oi := ?oia17) (v := ?va17) ?hia17 (by kernel_rfl) (by kernel_rfl) (by kernel_rfl) hQ ?hwa17 ?hya17 ?resta17
        case hia17 => simp only [List.getElem?_toArray, List.getElem?_cons_zero, List.getElem?_cons_succ]; rfl
        case hwa17 => rfl
        case hya17 => intro W hW; go_simp; with_reducible rfl
        simp only [Act.put, List.setIfInBounds_toArray, List.set_cons_zero, List.set_cons_succ]
        refine ext_step (i := 18) (oi := ?oia18) (by kernel_rfl) ?hia18 ?hwa18 (fun K hK => ?_)
        case hia18 => simp only [List.getElem?_toArray, List.getElem?_cons_zero, List.getElem?_cons_succ]; rfl
        case hwa18 => rfl
        go_simp
        refine (alive_any _).mono ?_; rintro e w7 ⟨rfl, b7⟩; refine hK _ _ b7 ?_
        try simp only [Act.put, List.setIfInBounds_toArray, List.set_cons_zero, List.set_cons_succ]
        refine ext_take (i := 19) (oi := ?oia19) (v := ?va19) ?hia19 (by kernel_rfl) (by kernel_rfl) (by kernel_rfl) hQ ?hwa19 ?hya19 ?resta19
        case hia19 => simp only [List.getElem?_toArray, List.getElem?_cons_zero, List.getElem?_cons_succ]; rfl
        case hwa19 => rfl
        case hya19 => intro W hW; go_simp; with_reducible rfl
        simp only [Act.put, List.setIfInBounds_toArray, List.set_cons_zero, List.set_cons_succ]
        refine ext_take (i := 20) (oi := ?oia20) (v := ?va20) ?hia20 (by kernel_rfl) (by kernel_rfl) (by kernel_rfl) hQ ?hwa20 ?hya20 ?resta20
        case hia20 => simp only [List.getElem?_toArray, List.getElem?_cons_zero, List.getElem?_cons_succ]; rfl
        case hwa20 => rfl
        case hya20 => intro W hW; go_simp; with_reducible rfl
        simp only [Act.put, List.setIfInBounds_toArray, List.set_cons_zero, List.set_cons_succ]
        refine wpAnyH_done (by kernel_rfl) ?_ _
        have hF := hB.trans (Below.mono (Below.trans (Below.trans (Below.trans x1 b5) b6) (b7.mono (Nat.le_trans (Nat.le_trans (Below.size x1) b5.size) b6.size))) hB.size)
        clear hB K1 K6
        go_wp2_with fail
        go_ret
        exact ⟨rfl, hF⟩
      · have d1 : decide ((0 : Int) < (n : Int) / 4294967296) = false := by simp; omega
        have e1 := Lib.hid (show (n : Int) % 65536 = ((n % 65536 : Nat) : Int) from by omega)
        have e2 := Lib.hid (show (n : Int) / 65536 = ((n / 65536 : Nat) : Int) from by omega)
        have HF1 := Lib.hid (fun W => fixed_any (n % 65536) 2 (by omega) (by omega) W)
        have HF2 := Lib.hid (fun W => fixed_any (n / 65536) 2 (by omega) (by omega) W)
        rw [show fxL (n % 65536) 2 = ltl 2 (n % 65536) from (fx_yes (by simp [fxB, wdB]; omega)).1, show fxE (n % 65536) 2 = 0 from (fx_yes (by simp [fxB, wdB]; omega)).2, ltl_len] at HF1
        rw [show fxL (n / 65536) 2 = ltl 2 (n / 65536) from (fx_yes (by simp [fxB, wdB]; omega)).1, show fxE (n / 65536) 2 = 0 from (fx_yes (by simp [fxB, wdB]; omega)).2, ltl_len] at HF2
        have HS := Lib.hid (ltl_half 2 n)
        go_enter Try.func4, Try.ntmps4
        go_wp2_with fail
        refine HF.out.mono ?_
        rintro e w1 ⟨A1, c1, rfl, o1, b1⟩
        have R1 := own_reads o1
        clear o1 HF
        go_wp2_with (first
          | (go_at_call 22; refine (Wide_yes _ (by decide) _).mono ?_; rintro e w2 ⟨rfl, rfl⟩)
          | (go_at_call 23; refine (alive_any _).mono ?_; rintro e w7 ⟨rfl, hb7⟩))
        rw [e1.out]
        refine (HF1.out _).mono ?_
        rintro e w2 ⟨A2, c2, rfl, o2, b2⟩
        have R2 := own_reads o2
        replace R1 := R1.mv b2
        clear o2
        go_wp2_with fail
        rw [e2.out]
        refine (HF2.out _).mono ?_
        rintro e w3 ⟨A3, c3, rfl, o3, b3⟩
        have R3 := own_reads o3
        replace R1 := R1.mv b3
        replace R2 := R2.mv b3
        have hB := b1.trans ((b2.trans (b3.mono b2.size)).mono b1.size)
        clear o3 b1 b2 b3 HF1 HF2
        go_wp2_with fail
        refine ext_start (by kernel_rfl) (calm_then calm_body) (fun hQ => ?_)
        have xd : Below w3.heap.size w3 w3.drew := (Ext.refl w3).draw
        replace R1 := R1.mv xd
        replace R2 := R2.mv xd
        replace R3 := R3.mv xd
        replace hB := hB.trans (xd.mono hB.size)
        clear xd
        generalize w3.drew = wd at *
        have K1 : ∀ W, Ext wd W → CvS A1 4 c1 (ltl 4 n) W := fun W h => cvS c1 (Reads.below R1 h)
        clear R1
        refine ext_take (i := 0) (oi := ?oib0) (v := ?vb0) ?hib0 (by kernel_rfl) (by kernel_rfl) (by kernel_rfl) hQ ?hwb0 ?hyb0 ?restb0
        case hib0 => simp only [List.getElem?_toArray, List.getElem?_cons_zero]; rfl
        case hwb0 => rfl
        case hyb0 => intro W hW; go_simp; with_reducible rfl
        simp only [Act.put, List.setIfInBounds_toArray, List.set_cons_zero, List.set_cons_succ]
        refine ext_take (i := 1) (oi := ?oib1) (v := ?vb1) ?hib1 (by kernel_rfl) (by kernel_rfl) (by kernel_rfl) hQ ?hwb1 ?hyb1 ?restb1
        case hib1 => simp only [List.getElem?_toArray, List.getElem?_cons_zero, List.getElem?_cons_succ]; rfl
        case hwb1 => rfl
        case hyb1 => intro W hW; go_simp; with_reducible rfl
        simp only [Act.put, List.setIfInBounds_toArray, List.set_cons_zero, List.set_cons_succ]
        refine ext_take (i := 2) (oi := ?oib2) (v := ?vb2) ?hib2 (by kernel_rfl) (by kernel_rfl) (by kernel_rfl) hQ ?hwb2 ?hyb2 ?restb2
        case hib2 => simp only [List.getElem?_toArray, List.getElem?_cons_zero, List.getElem?_cons_succ]; rfl
        case hwb2 => rfl
        case hyb2 => intro W hW; go_simp; with_reducible rfl
        simp only [Act.put, List.setIfInBounds_toArray, List.set_cons_zero, List.set_cons_succ]
        refine ext_take (i := 3) (oi := ?oib3) (v := ?vb3) ?hib3 (by kernel_rfl) (by kernel_rfl) (by kernel_rfl) hQ ?hwb3 ?hyb3 ?restb3
        case hib3 => simp only [List.getElem?_toArray, List.getElem?_cons_zero, List.getElem?_cons_succ]; rfl
        case hwb3 => rfl
        case hyb3 => intro W hW; go_simp; with_reducible rfl
        simp only [Act.put, List.setIfInBounds_toArray, List.set_cons_zero, List.set_cons_succ]
        refine ext_take (i := 4) (oi := ?oib4) (v := ?vb4) ?hib4 (by kernel_rfl) (by kernel_rfl) (by kernel_rfl) hQ ?hwb4 ?hyb4 ?restb4
        case hib4 => simp only [List.getElem?_toArray, List.getElem?_cons_zero, List.getElem?_cons_succ]; rfl
        case hwb4 => rfl
        case hyb4 => intro W hW; go_simp; with_reducible rfl
        simp only [Act.put, List.setIfInBounds_toArray, List.set_cons_zero, List.set_cons_succ]
        refine ext_take (i := 5) (oi := ?oib5) (v := ?vb5) ?hib5 (by kernel_rfl) (by kernel_rfl) (by kernel_rfl) hQ ?hwb5 ?hyb5 ?restb5
        case hib5 => simp only [List.getElem?_toArray, List.getElem?_cons_zero, List.getElem?_cons_succ]; rfl
        case hwb5 => rfl
        case hyb5 => intro W hW; go_simp; with_reducible rfl
        simp only [Act.put, List.setIfInBounds_toArray, List.set_cons_zero, List.set_cons_succ]
        refine ext_take (i := 6) (oi := ?oib6) (v := ?vb6) ?hib6 (by kernel_rfl) (by kernel_rfl) (by kernel_rfl) hQ ?hwb6 ?hyb6 ?restb6
        case hib6 => simp only [List.getElem?_toArray, List.getElem?_cons_zero, List.getElem?_cons_succ]; rfl
        case hwb6 => rfl
        case hyb6 => intro W hW; go_simp; with_reducible rfl
        simp only [Act.put, List.setIfInBounds_toArray, List.set_cons_zero, List.set_cons_succ]
        refine ext_take (i := 7) (oi := ?oib7) (v := ?vb7) ?hib7 (by kernel_rfl) (by kernel_rfl) (by kernel_rfl) hQ ?hwb7 ?hyb7 ?restb7
        case hib7 => simp only [List.getElem?_toArray, List.getElem?_cons_zero, List.getElem?_cons_succ]; rfl
        case hwb7 => rfl
        case hyb7 => intro W hW; go_simp; with_reducible rfl
        simp only [Act.put, List.setIfInBounds_toArray, List.set_cons_zero, List.set_cons_succ]
        refine ext_take (i := 8) (oi := ?oib8) (v := ?vb8) ?hib8 (by kernel_rfl) (by kernel_rfl) (by kernel_rfl) hQ ?hwb8 ?hyb8 ?restb8
        case hib8 => simp only [List.getElem?_toArray, List.getElem?_cons_zero, List.getElem?_cons_succ]; rfl
        case hwb8 => rfl
        case hyb8 => intro W hW; go_simp; with_reducible rfl
        simp only [Act.put, List.setIfInBounds_toArray, List.set_cons_zero, List.set_cons_succ]
        refine ext_take (i := 10) (oi := ?oib10) (v := ?vb10) ?hib10 (by kernel_rfl) (by kernel_rfl) (by kernel_rfl) hQ ?hwb10 ?hyb10 ?restb10
        case hib10 => simp only [List.getElem?_toArray, List.getElem?_cons_zero, List.getElem?_cons_succ]; rfl
        case hwb10 => rfl
        case hyb10 => intro W hW; go_simp; with_reducible rfl
        simp only [Act.put, List.setIfInBounds_toArray, List.set_cons_zero, List.set_cons_succ]
        refine ext_take (i := 12) (oi := ?oib12) (v := ?vb12) ?hib12 (by kernel_rfl) (by kernel_rfl) (by kernel_rfl) hQ ?hwb12 ?hyb12 ?restb12
        case hib12 => simp only [List.getElem?_toArray, List.getElem?_cons_zero, List.getElem?_cons_succ]; rfl
        case hwb12 => rfl
        case hyb12 => intro W hW; go_simp; with_reducible rfl
        simp only [Act.put, List.setIfInBounds_toArray, List.set_cons_zero, List.set_cons_succ]
        refine exb_step (i := 9) (oi := ?oib9) (by kernel_rfl) ?hib9 ?hwb9 (fun K hK => ?_)
        case hib9 => simp only [List.getElem?_toArray, List.getElem?_cons_zero, List.getElem?_cons_succ]; rfl
        case hwb9 => rfl
        go_simp
        refine hK wd.heap.size _ _ (Nat.le_refl _) (Ext.al _ _) ?_; have oe := own_empty wd (Nat.le_refl _) 5 1; replace R2 := R2.alloc (Nat.le_refl _) (.cells #[] 5); replace R3 := R3.alloc (Nat.le_refl _) (.cells #[] 5); have x1 := Ext.al wd (.cells #[] 5); generalize wd.alloc (.cells #[] 5) = we at *
        try simp only [Act.put, List.setIfInBounds_toArray, List.set_cons_zero, List.set_cons_succ]
        refine exb_step (i := 11) (oi := ?oib11) (by kernel_rfl) ?hib11 ?hwb11 (fun K hK => ?_)
        case hib11 => simp only [List.getElem?_toArray, List.getElem?_cons_zero, List.getElem?_cons_succ]; rfl
        case hwb11 => rfl
        refine wp_app0 (.tmp 94) (.tmp 95) _ rfl sl8 wd.heap.size _ rfl oe _ A2 2 c2 ((ltl 2 (n % 65536)).map b8) rfl R2 (b8_one _) (by omega) (Below.size x1) ?_; intro A5 c5 w5 o5 b5 hc5; replace R3 := R3.below b5; refine hK wd.heap.size _ _ (Nat.le_refl _) b5 ?_
        try simp only [Act.put, List.setIfInBounds_toArray, List.set_cons_zero, List.set_cons_succ]
        refine exb_step (i := 13) (oi := ?oib13) (by kernel_rfl) ?hib13 ?hwb13 (fun K hK => ?_)
        case hib13 => simp only [List.getElem?_toArray, List.getElem?_cons_zero, List.getElem?_cons_succ]; rfl
        case hwb13 => rfl
        refine wp_app (.tmp 96) (.tmp 97) _ rfl sl8 wd.heap.size _ 2 _ rfl o5 _ A3 2 c3 ((ltl 2 (n / 65536)).map b8) rfl R3 (b8_one _) (by omega) (Nat.le_trans (Below.size x1) b5.size) ?_; intro A6 c6 w6 o6 g6 b6 hc6; rw [← List.map_append, ← HS.out] at o6; have R6 := own_reads o6; have K6 : ∀ W, Ext w6 W → CvS A6 4 c6 (ltl 4 n) W := fun W h => cvS c6 (Reads.below R6 h); refine hK w6.heap.size _ _ (Nat.le_trans (Nat.le_trans (Below.size x1) b5.size) b6.size) b6 ?_
        try simp only [Act.put, List.setIfInBounds_toArray, List.set_cons_zero, List.set_cons_succ]
        refine ext_take (i := 14) (oi := ?oib14) (v := ?vb14) ?hib14 (by kernel_rfl) (by kernel_rfl) (by kernel_rfl) hQ ?hwb14 ?hyb14 ?restb14
        case hib14 => simp only [List.getElem?_toArray, List.getElem?_cons_zero, List.getElem?_cons_succ]; rfl
        case hwb14 => rfl
        case hyb14 => intro W hW; go_simp; with_reducible rfl
        simp only [Act.put, List.setIfInBounds_toArray, List.set_cons_zero, List.set_cons_succ]
        refine ext_take (i := 15) (oi := ?oib15) (v := ?vb15) ?hib15 (by kernel_rfl) (by kernel_rfl) (by kernel_rfl) hQ ?hwb15 ?hyb15 ?restb15
        case hib15 => simp only [List.getElem?_toArray, List.getElem?_cons_zero, List.getElem?_cons_succ]; rfl
        case hwb15 => rfl
        case hyb15 => intro W hW; go_simp; with_reducible rfl
        simp only [Act.put, List.setIfInBounds_toArray, List.set_cons_zero, List.set_cons_succ]
        refine ext_take (i := 16) (oi := ?oib16) (v := ?vb16) ?hib16 (by kernel_rfl) (by kernel_rfl) (by kernel_rfl) hQ ?hwb16 ?hyb16 ?restb16
        case hib16 => simp only [List.getElem?_toArray, List.getElem?_cons_zero, List.getElem?_cons_succ]; rfl
        case hwb16 => rfl
        case hyb16 => intro W hW; go_simp; with_reducible rfl
        simp only [Act.put, List.setIfInBounds_toArray, List.set_cons_zero, List.set_cons_succ]
        refine ext_take (i := 17) (oi := ?oib17) (v := ?vb17) ?hib17 (by kernel_rfl) (by kernel_rfl) (by kernel_rfl) hQ ?hwb17 ?hyb17 ?restb17
        case hib17 => simp only [List.getElem?_toArray, List.getElem?_cons_zero, List.getElem?_cons_succ]; rfl
        case hwb17 => rfl
        case hyb17 => intro W hW; go_simp; with_reducible rfl
        simp only [Act.put, List.setIfInBounds_toArray, List.set_cons_zero, List.set_cons_succ]
        refine ext_step (i := 18) (oi := ?oib18) (by kernel_rfl) ?hib18 ?hwb18 (fun K hK => ?_)
        case hib18 => simp only [List.getElem?_toArray, List.getElem?_cons_zero, List.getElem?_cons_succ]; rfl
        case hwb18 => rfl
        go_simp
        refine (alive_any _).mono ?_; rintro e w7 ⟨rfl, b7⟩; refine hK _ _ b7 ?_
        try simp only [Act.put, List.setIfInBounds_toArray, List.set_cons_zero, List.set_cons_succ]
        refine ext_take (i := 19) (oi := ?oib19) (v := ?vb19) ?hib19 (by kernel_rfl) (by kernel_rfl) (by kernel_rfl) hQ ?hwb19 ?hyb19 ?restb19
        case hib19 => simp only [List.getElem?_toArray, List.getElem?_cons_zero, List.getElem?_cons_succ]; rfl
        case hwb19 => rfl
        case hyb19 => intro W hW; go_simp; with_reducible rfl
        simp only [Act.put, List.setIfInBounds_toArray, List.set_cons_zero, List.set_cons_succ]
        refine ext_take (i := 20) (oi := ?oib20) (v := ?vb20) ?hib20 (by kernel_rfl) (by kernel_rfl) (by kernel_rfl) hQ ?hwb20 ?hyb20 ?restb20
        case hib20 => simp only [List.getElem?_toArray, List.getElem?_cons_zero, List.getElem?_cons_succ]; rfl
        case hwb20 => rfl
        case hyb20 => intro W hW; go_simp; with_reducible rfl
        simp only [Act.put, List.setIfInBounds_toArray, List.set_cons_zero, List.set_cons_succ]
        refine wpAnyH_done (by kernel_rfl) ?_ _
        have hF := hB.trans (Below.mono (Below.trans (Below.trans (Below.trans x1 b5) b6) (b7.mono (Nat.le_trans (Nat.le_trans (Below.size x1) b5.size) b6.size))) hB.size)
        clear hB K1 K6
        go_wp2_with fail
        go_ret
        exact ⟨rfl, hF⟩
      · have d1 : decide ((0 : Int) < (n : Int) / 18446744073709551616) = false := by simp; omega
        have e1 := Lib.hid (show (n : Int) % 4294967296 = ((n % 4294967296 : Nat) : Int) from by omega)
        have e2 := Lib.hid (show (n : Int) / 4294967296 = ((n / 4294967296 : Nat) : Int) from by omega)
        have HF1 := Lib.hid (fun W => fixed_any (n % 4294967296) 4 (by omega) (by omega) W)
        have HF2 := Lib.hid (fun W => fixed_any (n / 4294967296) 4 (by omega) (by omega) W)
        rw [show fxL (n % 4294967296) 4 = ltl 4 (n % 4294967296) from (fx_yes (by simp [fxB, wdB]; omega)).1, show fxE (n % 4294967296) 4 = 0 from (fx_yes (by simp [fxB, wdB]; omega)).2, ltl_len] at HF1
        rw [show fxL (n / 4294967296) 4 = ltl 4 (n / 4294967296) from (fx_yes (by simp [fxB, wdB]; omega)).1, show fxE (n / 4294967296) 4 = 0 from (fx_yes (by simp [fxB, wdB]; omega)).2, ltl_len] at HF2
        have HS := Lib.hid (ltl_half 4 n)
        go_enter Try.func4, Try.ntmps4
        go_wp2_with fail
        refine HF.out.mono ?_
        rintro e w1 ⟨A1, c1, rfl, o1, b1⟩
        have R1 := own_reads o1
        clear o1 HF
        go_wp2_with (first
          | (go_at_call 22; refine (Wide_yes _ (by decide) _).mono ?_; rintro e w2 ⟨rfl, rfl⟩)
          | (go_at_call 23; refine (alive_any _).mono ?_; rintro e w7 ⟨rfl, hb7⟩))
        rw [e1.out]
        refine (HF1.out _).mono ?_
        rintro e w2 ⟨A2, c2, rfl, o2, b2⟩
        have R2 := own_reads o2
        replace R1 := R1.mv b2
        clear o2
        go_wp2_with fail
        rw [e2.out]
        refine (HF2.out _).mono ?_
        rintro e w3 ⟨A3, c3, rfl, o3, b3⟩
        have R3 := own_reads o3
        replace R1 := R1.mv b3
        replace R2 := R2.mv b3
        have hB := b1.trans ((b2.trans (b3.mono b2.size)).mono b1.size)
        clear o3 b1 b2 b3 HF1 HF2
        go_wp2_with fail
        refine ext_start (by kernel_rfl) (calm_then calm_body) (fun hQ => ?_)
        have xd : Below w3.heap.size w3 w3.drew := (Ext.refl w3).draw
        replace R1 := R1.mv xd
        replace R2 := R2.mv xd
        replace R3 := R3.mv xd
        replace hB := hB.trans (xd.mono hB.size)
        clear xd
        generalize w3.drew = wd at *
        have K1 : ∀ W, Ext wd W → CvS A1 8 c1 (ltl 8 n) W := fun W h => cvS c1 (Reads.below R1 h)
        clear R1
        refine ext_take (i := 0) (oi := ?oic0) (v := ?vc0) ?hic0 (by kernel_rfl) (by kernel_rfl) (by kernel_rfl) hQ ?hwc0 ?hyc0 ?restc0
        case hic0 => simp only [List.getElem?_toArray, List.getElem?_cons_zero]; rfl
        case hwc0 => rfl
        case hyc0 => intro W hW; go_simp; with_reducible rfl
        simp only [Act.put, List.setIfInBounds_toArray, List.set_cons_zero, List.set_cons_succ]
        refine ext_take (i := 1) (oi := ?oic1) (v := ?vc1) ?hic1 (by kernel_rfl) (by kernel_rfl) (by kernel_rfl) hQ ?hwc1 ?hyc1 ?restc1
        case hic1 => simp only [List.getElem?_toArray, List.getElem?_cons_zero, List.getElem?_cons_succ]; rfl
        case hwc1 => rfl
        case hyc1 => intro W hW; go_simp; with_reducible rfl
        simp only [Act.put, List.setIfInBounds_toArray, List.set_cons_zero, List.set_cons_succ]
        refine ext_take (i := 2) (oi := ?oic2) (v := ?vc2) ?hic2 (by kernel_rfl) (by kernel_rfl) (by kernel_rfl) hQ ?hwc2 ?hyc2 ?restc2
        case hic2 => simp only [List.getElem?_toArray, List.getElem?_cons_zero, List.getElem?_cons_succ]; rfl
        case hwc2 => rfl
        case hyc2 => intro W hW; go_simp; with_reducible rfl
        simp only [Act.put, List.setIfInBounds_toArray, List.set_cons_zero, List.set_cons_succ]
        refine ext_take (i := 3) (oi := ?oic3) (v := ?vc3) ?hic3 (by kernel_rfl) (by kernel_rfl) (by kernel_rfl) hQ ?hwc3 ?hyc3 ?restc3
        case hic3 => simp only [List.getElem?_toArray, List.getElem?_cons_zero, List.getElem?_cons_succ]; rfl
        case hwc3 => rfl
        case hyc3 => intro W hW; go_simp; with_reducible rfl
        simp only [Act.put, List.setIfInBounds_toArray, List.set_cons_zero, List.set_cons_succ]
        refine ext_take (i := 4) (oi := ?oic4) (v := ?vc4) ?hic4 (by kernel_rfl) (by kernel_rfl) (by kernel_rfl) hQ ?hwc4 ?hyc4 ?restc4
        case hic4 => simp only [List.getElem?_toArray, List.getElem?_cons_zero, List.getElem?_cons_succ]; rfl
        case hwc4 => rfl
        case hyc4 => intro W hW; go_simp; with_reducible rfl
        simp only [Act.put, List.setIfInBounds_toArray, List.set_cons_zero, List.set_cons_succ]
        refine ext_take (i := 5) (oi := ?oic5) (v := ?vc5) ?hic5 (by kernel_rfl) (by kernel_rfl) (by kernel_rfl) hQ ?hwc5 ?hyc5 ?restc5
        case hic5 => simp only [List.getElem?_toArray, List.getElem?_cons_zero, List.getElem?_cons_succ]; rfl
        case hwc5 => rfl
        case hyc5 => intro W hW; go_simp; with_reducible rfl
        simp only [Act.put, List.setIfInBounds_toArray, List.set_cons_zero, List.set_cons_succ]
        refine ext_take (i := 6) (oi := ?oic6) (v := ?vc6) ?hic6 (by kernel_rfl) (by kernel_rfl) (by kernel_rfl) hQ ?hwc6 ?hyc6 ?restc6
        case hic6 => simp only [List.getElem?_toArray, List.getElem?_cons_zero, List.getElem?_cons_succ]; rfl
        case hwc6 => rfl
        case hyc6 => intro W hW; go_simp; with_reducible rfl
        simp only [Act.put, List.setIfInBounds_toArray, List.set_cons_zero, List.set_cons_succ]
        refine ext_take (i := 7) (oi := ?oic7) (v := ?vc7) ?hic7 (by kernel_rfl) (by kernel_rfl) (by kernel_rfl) hQ ?hwc7 ?hyc7 ?restc7
        case hic7 => simp only [List.getElem?_toArray, List.getElem?_cons_zero, List.getElem?_cons_succ]; rfl
        case hwc7 => rfl
        case hyc7 => intro W hW; go_simp; with_reducible rfl
        simp only [Act.put, List.setIfInBounds_toArray, List.set_cons_zero, List.set_cons_succ]
        refine ext_take (i := 8) (oi := ?oic8) (v := ?vc8) ?hic8 (by kernel_rfl) (by kernel_rfl) (by kernel_rfl) hQ ?hwc8 ?hyc8 ?restc8
        case hic8 => simp only [List.getElem?_toArray, List.getElem?_cons_zero, List.getElem?_cons_succ]; rfl
        case hwc8 => rfl
        case hyc8 => intro W hW; go_simp; with_reducible rfl
        simp only [Act.put, List.setIfInBounds_toArray, List.set_cons_zero, List.set_cons_succ]
        refine ext_take (i := 10) (oi := ?oic10) (v := ?vc10) ?hic10 (by kernel_rfl) (by kernel_rfl) (by kernel_rfl) hQ ?hwc10 ?hyc10 ?restc10
        case hic10 => simp only [List.getElem?_toArray, List.getElem?_cons_zero, List.getElem?_cons_succ]; rfl
        case hwc10 => rfl
        case hyc10 => intro W hW; go_simp; with_reducible rfl
        simp only [Act.put, List.setIfInBounds_toArray, List.set_cons_zero, List.set_cons_succ]
        refine ext_take (i := 12) (oi := ?oic12) (v := ?vc12) ?hic12 (by kernel_rfl) (by kernel_rfl) (by kernel_rfl) hQ ?hwc12 ?hyc12 ?restc12
        case hic12 => simp only [List.getElem?_toArray, List.getElem?_cons_zero, List.getElem?_cons_succ]; rfl
        case hwc12 => rfl
        case hyc12 => intro W hW; go_simp; with_reducible rfl
        simp only [Act.put, List.setIfInBounds_toArray, List.set_cons_zero, List.set_cons_succ]
        refine exb_step (i := 9) (oi := ?oic9) (by kernel_rfl) ?hic9 ?hwc9 (fun K hK => ?_)
        case hic9 => simp only [List.getElem?_toArray, List.getElem?_cons_zero, List.getElem?_cons_succ]; rfl
        case hwc9 => rfl
        go_simp
        refine hK wd.heap.size _ _ (Nat.le_refl _) (Ext.al _ _) ?_; have oe := own_empty wd (Nat.le_refl _) 5 1; replace R2 := R2.alloc (Nat.le_refl _) (.cells #[] 5); replace R3 := R3.alloc (Nat.le_refl _) (.cells #[] 5); have x1 := Ext.al wd (.cells #[] 5); generalize wd.alloc (.cells #[] 5) = we at *
        try simp only [Act.put, List.setIfInBounds_toArray, List.set_cons_zero, List.set_cons_succ]
        refine exb_step (i := 11) (oi := ?oic11) (by kernel_rfl) ?hic11 ?hwc11 (fun K hK => ?_)
        case hic11 => simp only [List.getElem?_toArray, List.getElem?_cons_zero, List.getElem?_cons_succ]; rfl
        case hwc11 => rfl
        refine wp_app0 (.tmp 94) (.tmp 95) _ rfl sl8 wd.heap.size _ rfl oe _ A2 4 c2 ((ltl 4 (n % 4294967296)).map b8) rfl R2 (b8_one _) (by omega) (Below.size x1) ?_; intro A5 c5 w5 o5 b5 hc5; replace R3 := R3.below b5; refine hK wd.heap.size _ _ (Nat.le_refl _) b5 ?_
        try simp only [Act.put, List.setIfInBounds_toArray, List.set_cons_zero, List.set_cons_succ]
        refine exb_step (i := 13) (oi := ?oic13) (by kernel_rfl) ?hic13 ?hwc13 (fun K hK => ?_)
        case hic13 => simp only [List.getElem?_toArray, List.getElem?_cons_zero, List.getElem?_cons_succ]; rfl
        case hwc13 => rfl
        refine wp_app (.tmp 96) (.tmp 97) _ rfl sl8 wd.heap.size _ 4 _ rfl o5 _ A3 4 c3 ((ltl 4 (n / 4294967296)).map b8) rfl R3 (b8_one _) (by omega) (Nat.le_trans (Below.size x1) b5.size) ?_; intro A6 c6 w6 o6 g6 b6 hc6; rw [← List.map_append, ← HS.out] at o6; have R6 := own_reads o6; have K6 : ∀ W, Ext w6 W → CvS A6 8 c6 (ltl 8 n) W := fun W h => cvS c6 (Reads.below R6 h); refine hK w6.heap.size _ _ (Nat.le_trans (Nat.le_trans (Below.size x1) b5.size) b6.size) b6 ?_
        try simp only [Act.put, List.setIfInBounds_toArray, List.set_cons_zero, List.set_cons_succ]
        refine ext_take (i := 14) (oi := ?oic14) (v := ?vc14) ?hic14 (by kernel_rfl) (by kernel_rfl) (by kernel_rfl) hQ ?hwc14 ?hyc14 ?restc14
        case hic14 => simp only [List.getElem?_toArray, List.getElem?_cons_zero, List.getElem?_cons_succ]; rfl
        case hwc14 => rfl
        case hyc14 => intro W hW; go_simp; with_reducible rfl
        simp only [Act.put, List.setIfInBounds_toArray, List.set_cons_zero, List.set_cons_succ]
        refine ext_take (i := 15) (oi := ?oic15) (v := ?vc15) ?hic15 (by kernel_rfl) (by kernel_rfl) (by kernel_rfl) hQ ?hwc15 ?hyc15 ?restc15
        case hic15 => simp only [List.getElem?_toArray, List.getElem?_cons_zero, List.getElem?_cons_succ]; rfl
        case hwc15 => rfl
        case hyc15 => intro W hW; go_simp; with_reducible rfl
        simp only [Act.put, List.setIfInBounds_toArray, List.set_cons_zero, List.set_cons_succ]
        refine ext_take (i := 16) (oi := ?oic16) (v := ?vc16) ?hic16 (by kernel_rfl) (by kernel_rfl) (by kernel_rfl) hQ ?hwc16 ?hyc16 ?restc16
        case hic16 => simp only [List.getElem?_toArray, List.getElem?_cons_zero, List.getElem?_cons_succ]; rfl
        case hwc16 => rfl
        case hyc16 => intro W hW; go_simp; with_reducible rfl
        simp only [Act.put, List.setIfInBounds_toArray, List.set_cons_zero, List.set_cons_succ]
        refine ext_take (i := 17) (oi := ?oic17) (v := ?vc17) ?hic17 (by kernel_rfl) (by kernel_rfl) (by kernel_rfl) hQ ?hwc17 ?hyc17 ?restc17
        case hic17 => simp only [List.getElem?_toArray, List.getElem?_cons_zero, List.getElem?_cons_succ]; rfl
        case hwc17 => rfl
        case hyc17 => intro W hW; go_simp; with_reducible rfl
        simp only [Act.put, List.setIfInBounds_toArray, List.set_cons_zero, List.set_cons_succ]
        refine ext_step (i := 18) (oi := ?oic18) (by kernel_rfl) ?hic18 ?hwc18 (fun K hK => ?_)
        case hic18 => simp only [List.getElem?_toArray, List.getElem?_cons_zero, List.getElem?_cons_succ]; rfl
        case hwc18 => rfl
        go_simp
        refine (alive_any _).mono ?_; rintro e w7 ⟨rfl, b7⟩; refine hK _ _ b7 ?_
        try simp only [Act.put, List.setIfInBounds_toArray, List.set_cons_zero, List.set_cons_succ]
        refine ext_take (i := 19) (oi := ?oic19) (v := ?vc19) ?hic19 (by kernel_rfl) (by kernel_rfl) (by kernel_rfl) hQ ?hwc19 ?hyc19 ?restc19
        case hic19 => simp only [List.getElem?_toArray, List.getElem?_cons_zero, List.getElem?_cons_succ]; rfl
        case hwc19 => rfl
        case hyc19 => intro W hW; go_simp; with_reducible rfl
        simp only [Act.put, List.setIfInBounds_toArray, List.set_cons_zero, List.set_cons_succ]
        refine ext_take (i := 20) (oi := ?oic20) (v := ?vc20) ?hic20 (by kernel_rfl) (by kernel_rfl) (by kernel_rfl) hQ ?hwc20 ?hyc20 ?restc20
        case hic20 => simp only [List.getElem?_toArray, List.getElem?_cons_zero, List.getElem?_cons_succ]; rfl
        case hwc20 => rfl
        case hyc20 => intro W hW; go_simp; with_reducible rfl
        simp only [Act.put, List.setIfInBounds_toArray, List.set_cons_zero, List.set_cons_succ]
        refine wpAnyH_done (by kernel_rfl) ?_ _
        have hF := hB.trans (Below.mono (Below.trans (Below.trans (Below.trans x1 b5) b6) (b7.mono (Nat.le_trans (Nat.le_trans (Below.size x1) b5.size) b6.size))) hB.size)
        clear hB K1 K6
        go_wp2_with fail
        go_ret
        exact ⟨rfl, hF⟩
    · obtain ⟨hL, hE⟩ := fx_no (hfx.trans (by simpa using hfit))
      rw [hL, hE] at HF
      clear hL hE hfx
      rcases hk with rfl | rfl | rfl | rfl
      · have d1 : decide ((0 : Int) < (n : Int) / 256) = true := by simp; omega
        have HFT := Lib.hid hfit
        clear hfit
        go_enter Try.func4, Try.ntmps4
        go_wp2_with fail
        refine HF.out.mono ?_
        rintro e w1 ⟨A1, c1, rfl, o1, b1⟩
        clear HF
        go_wp2_with (first
          | (go_at_call 22; refine (Wide_yes _ (by decide) _).mono ?_; rintro e w2 ⟨rfl, rfl⟩)
          | (go_at_call 23; refine (alive_any _).mono ?_; rintro e w7 ⟨rfl, hb7⟩))
        go_ret
        exact ⟨rfl, b1.trans (hb7.mono b1.size)⟩
      · have d1 : decide ((0 : Int) < (n : Int) / 65536) = true := by simp; omega
        have HFT := Lib.hid hfit
        clear hfit
        go_enter Try.func4, Try.ntmps4
        go_wp2_with fail
        refine HF.out.mono ?_
        rintro e w1 ⟨A1, c1, rfl, o1, b1⟩
        clear HF
        go_wp2_with (first
          | (go_at_call 22; refine (Wide_yes _ (by decide) _).mono ?_; rintro e w2 ⟨rfl, rfl⟩)
          | (go_at_call 23; refine (alive_any _).mono ?_; rintro e w7 ⟨rfl, hb7⟩))
        go_ret
        exact ⟨rfl, b1.trans (hb7.mono b1.size)⟩
      · have d1 : decide ((0 : Int) < (n : Int) / 4294967296) = true := by simp; omega
        have HFT := Lib.hid hfit
        clear hfit
        go_enter Try.func4, Try.ntmps4
        go_wp2_with fail
        refine HF.out.mono ?_
        rintro e w1 ⟨A1, c1, rfl, o1, b1⟩
        clear HF
        go_wp2_with (first
          | (go_at_call 22; refine (Wide_yes _ (by decide) _).mono ?_; rintro e w2 ⟨rfl, rfl⟩)
          | (go_at_call 23; refine (alive_any _).mono ?_; rintro e w7 ⟨rfl, hb7⟩))
        go_ret
        exact ⟨rfl, b1.trans (hb7.mono b1.size)⟩
      · exact absurd hn (by omega)
end Go.Proofs.Ytnonikeolpokkaa
