/- Contracts and laws of a chapter that its statement of names leans on. Each states its conditions. -/
import Derived.Test.YtldaijkcmnnjpaaTabP
namespace Go.Proofs.Ytldaijkcmnnjpaa
open Go.RowKit Wire
set_option linter.unusedVariables false
/-- The bytes of runs, behind an instruction. -/
def codR : Int → List (Int × Nat) → List UInt8
  | _, [] => []
  | s, p :: r => vry (p.1 - s).toNat ++ (vry p.2 ++ codR p.1 r)
def enB (L : List (Int × Nat)) : List UInt8 := vry L.length ++ codR 0 L
/-- What Encode answers. -/
def ecL (L : List (Int × Nat)) (n : Int) : List UInt8 := if ckT L n = 0 then enB L else []
theorem fn_len {L : List (Int × Nat)} {n : Int} (h : fnB L n = true) (hn : n ≤ 1000) : L.length ≤ 1000 := by
  have key : ∀ (r : List (Int × Nat)) (p : Int × Nat), frB p r n = true → p.1 < n → (r.length : Int) < n - p.1 := by
    intro r
    induction r with
    | nil => intro p _ hp; simp; omega
    | cons q r ih =>
      intro p hf hp
      simp only [frB, Bool.and_eq_true, decide_eq_true_eq] at hf
      have := ih q hf.2 hf.1.1
      simp only [List.length_cons]
      have := hf.1.2.1
      omega
  rcases L with _ | ⟨p, r⟩
  · simp
  · rw [fnB_ref] at h
    simp only [Bool.and_eq_true, beq_iff_eq, decide_eq_true_eq] at h
    have := key r p h.2.2 h.2.1
    simp only [List.length_cons]
    omega
set_option maxRecDepth 100000 in
set_option maxHeartbeats 3200000 in
theorem encode8_any (A : Option Addr) (n c : Nat) (L : List (Int × Nat)) (k : Int) (w : World) (hr : RdN w A n L) (hc : n ≤ c ∧ c ≤ 9223372036854775807) :
    Calls Try.prog 26 #[.slice A n c, .int .i64 k] w fun e w' => ∃ A' c', e = .returned (.tuple #[.slice A' (ecL L k).length c', .int .i64 (ckT L k)]) ∧ w'.ownsRow w.heap.size 5 1 (.slice A' (ecL L k).length c') (ecL L k).length ((ecL L k).map b8) ∧ Below w.heap.size w w' := by
  have HK := Lib.hid (fun W (h : RdN W A n L) => check8_any A n c L k W h hc)
  by_cases h : ckT L k = 0
  rotate_left
  · have HV := Lib.hid (show ecL L k = [] from by rw [ecL, if_neg h])
    have d1 : (ckT L k != 0) = true := by rw [bne_iff_ne]; exact h
    generalize ckT L k = x at *
    clear h
    go_enter Try.func26, Try.ntmps26
    go_wp2_with fail
    refine (HK.out _ hr).mono ?_
    rintro e w1 ⟨rfl, hb⟩
    go_wp2_with fail
    go_ret2
    exact ⟨none, 0, by rw [HV.out]; rfl, by rw [HV.out]; exact World.ownsRow_nil _ _ _ _, hb⟩
  have hk := (ck_zero8 h).1
  have hfn := (ck_zero8 h).2
  have HV := Lib.hid (show ecL L k = enB L from by rw [ecL, if_pos h])
  rw [HV.out]
  rw [h] at HK ⊢
  clear h
  have HL := Lib.hid hr.len
  have HF := Lib.hid hfn
  have hnl : n ≤ 1000 := by have := fn_len hfn (by omega); rw [hr.len] at this; exact this
  clear hfn
  go_enter Try.func26, Try.ntmps26
  go_wp2_with fail
  refine (HK.out _ hr).mono ?_
  rintro e w1 ⟨rfl, hb⟩
  go_wp2_with fail
  refine (vary_any n (by omega) _).mono ?_
  rintro e w2 ⟨A2, c2, rfl, o2, b2⟩
  have hB2 := hb.trans (b2.mono hb.size)
  replace o2 := own_low o2 hb.size
  go_wp2_with fail
  go_loopw [7, 8, 23] (fun v s i wr => ∃ (j ws m : Nat) (out : List UInt8) (A1 : Option Addr) (c1 : Nat), j ≤ n ∧ i = .int .i64 (j : Int) ∧ s = .int .i64 (ws : Int) ∧ v = .slice A1 m c1 ∧ out.length = m ∧ m ≤ 10 + 20 * j ∧ ws ≤ 200 ∧ out ++ codR (ws : Int) (L.drop j) = enB L ∧ (∀ q, L[j]? = some q → (ws : Int) ≤ q.1) ∧ wr.ownsRow w.heap.size 5 1 (.slice A1 m c1) m ((out).map b8) ∧ Below w.heap.size w wr) (fun _ _ i _ => n - (intOf i).toNat)
  case atStart => exact ⟨0, 0, (vry n).length, vry n, A2, c2, by omega, rfl, rfl, rfl, rfl, by have := (vry_len n).2; omega, by omega, by rw [enB, HL.out]; rfl, fun q hq => (fn_at HF.out hq).1.1, o2, hB2⟩
  case round =>
    obtain ⟨j, ws, m, out, A1, c1, hj, rfl, rfl, rfl, hml, hm2, hws2, hout, hwq, hown, hB⟩ := hrel
    have HO := Lib.hid hout
    have HW := Lib.hid hwq
    have HM := Lib.hid hml
    clear hout hwq hml
    by_cases hlt : j < n
    · obtain ⟨ad, f, z, rfl, hab, hz, c0, c3, _, hzb⟩ := hr.at_ hlt
      obtain ⟨⟨hf0, hfk⟩, _⟩ := fn_at HF.out hz
      obtain ⟨fN, rfl⟩ : ∃ fN : Nat, f = (fN : Int) := ⟨f.toNat, by omega⟩
      have hws := HW.out _ hz
      obtain ⟨d, hd⟩ : ∃ d : Nat, fN = ws + d := ⟨fN - ws, by simp at hws; omega⟩
      subst hd
      have hfk2 : ws + d < 200 + 1 := by simp at hfk; omega
      have HN := Lib.hid (show out ++ (vry d ++ vry z) ++ codR ((ws + d : Nat) : Int) (L.drop (j + 1)) = enB L from by
        have h := HO.out
        rw [drop_get hz, codR, show (((ws + d : Nat) : Int) - (ws : Int)).toNat = d from by omega] at h
        rw [← h]; simp)
      have HW2 := Lib.hid (show ∀ q, L[j + 1]? = some q → ((ws + d : Nat) : Int) ≤ q.1 from fun q hq => by have := (fn_next HF.out hz hq).1; simp at this ⊢; omega)
      have hvd := (vry_len d).2
      have hvz := (vry_len z).2
      have hsub : ((ws + d : Nat) : Int) - (ws : Int) = (d : Int) := by omega
      have hsub2 : (ws : Int) + (d : Int) - (ws : Int) = (d : Int) := by omega
      have hw0 : IntKind.u64.wrap (d : Int) = (d : Int) := by rw [IntKind.wrap_u64]; omega
      clear hz hf0 hfk hws
      have e0 := cl0 hB hab c0
      have e3 := cl1 hB hab c3
      have b1 := Ext.al wr (.cells #[.int .i64 ((ws : Int) + (d : Int)), .int .u64 (z : Int)] 57)
      have hkx := Blk.new wr 57 #[.int .i64 ((ws : Int) + (d : Int)), .int .u64 (z : Int)]
      have hB1 := hB.trans (Below.mono b1 hB.size)
      have hown1 := own_call hown b1
      have y0 : (wr.alloc (.cells #[.int .i64 ((ws : Int) + (d : Int)), .int .u64 (z : Int)] 57)).cell? ⟨wr.heap.size, 0, none⟩ = some (.int .i64 ((ws : Int) + (d : Int))) := (hkx.cell 0).trans rfl
      go_wp2_with fail
      generalize wr.alloc (.cells #[.int .i64 ((ws : Int) + (d : Int)), .int .u64 (z : Int)] 57) = x0 at *
      generalize wr.heap.size = px at *
      clear y0 e0 e3
      refine (vary_any d (by omega) _).mono ?_
      rintro e w6 ⟨A6, c6, rfl, o6, b⟩
      have hb6 := hB1.trans (b.mono hB1.size)
      have hown6 := own_call hown1 b
      have hk6 := hkx.below b hkx.lt
      go_wp2_with (at_builtin; refine wpList_app8g rfl (.tmp 27) (.tmp 33) _ (by rfl) sl8 w.heap.size (by rfl) hown6 (by rfl) (own_rd o6) (m + (vry d).length) rfl (by omega) hb6.size ?_; intro A7 c7 w7 o7 g7 b7; have hb7 := hb6.trans b7; have hk7 := hk6.grown g7 (fun h => own_blk_ne hown6 hk6 (by decide) h.symm); have y1 : w7.cell? ⟨px, 1, none⟩ = some (.int .u64 (z : Int)) := (hk7.cell 1).trans rfl)
      refine (vary_any z (by omega) _).mono ?_
      rintro e w8 ⟨A8, c8, rfl, o8, b⟩
      have hb8 := hb7.trans (b.mono hb7.size)
      have hown8 := own_call o7 b
      have hk8 := hk7.below b hk7.lt
      go_wp2_with (at_builtin; refine wpList_app8g rfl (.tmp 35) (.tmp 38) _ (by rfl) sl8 w.heap.size (by rfl) hown8 (by rfl) (own_rd o8) (m + (vry d).length + (vry z).length) rfl (by omega) hb8.size ?_; intro A9 c9 w9 o9 g9 b9; have hb9 := hb8.trans b9; have hk9 := hk8.grown g9 (fun h => own_blk_ne hown8 hk8 (by decide) h.symm); have y2 : w9.cell? ⟨px, 0, none⟩ = some (.int .i64 ((ws : Int) + (d : Int))) := (hk9.cell 0).trans rfl)
      go_roundw
      case rel => exact ⟨j + 1, ws + d, m + (vry d).length + (vry z).length, out ++ (vry d ++ vry z), A9, c9, by omega, by go_num, by go_num, rfl, by simp only [List.length_append, HM.out]; omega, by omega, by omega, HN.out, HW2.out, by rw [← List.append_assoc]; exact o9, hb9⟩
      case measure => simp [intOf]; omega
    · have hjn : j = n := by omega
      subst hjn
      have HE := Lib.hid (show out = enB L from by
        have h := HO.out
        rw [List.drop_of_length_le (by rw [HL.out]; omega)] at h
        simpa [codR] using h)
      rw [HE.out] at hown HM
      go_wp2_with fail
      go_ret2
      rw [HM.out]
      exact ⟨A1, c1, rfl, hown, hB⟩

end Go.Proofs.Ytldaijkcmnnjpaa
