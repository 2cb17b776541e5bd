/- Contracts and laws of a chapter that its statement of names leans on. Each states its conditions. -/
import Derived.Test.YtldaijkcmnnjpaaScr1
import Derived.Test.YtldaijkcmnnjpaaRet2
namespace Go.Proofs.Ytldaijkcmnnjpaa
open Go.RowKit Wire
set_option linter.unusedVariables false
/-- The bytes of some numbers. -/
def cod (l : List Int) : List UInt8 := l.flatMap fun z => vry z.toNat
theorem cod_nil : cod [] = [] := rfl
theorem cod_append (l m : List Int) : cod (l ++ m) = cod l ++ cod m := by simp [cod]
theorem cod_take {l : List Int} {j : Nat} {z : Int} (h : l[j]? = some z) : cod (l.take (j + 1)) = cod (l.take j) ++ vry z.toNat := by
  rw [take_succ_of h, cod_append]; simp [cod]
theorem cod_len (l : List Int) : (cod l).length ≤ 10 * l.length := by
  induction l with
  | nil => simp [cod]
  | cons z l ih =>
    have := (vry_len z.toNat).2
    rw [show z :: l = [z] ++ l from rfl, cod_append]
    simp only [List.length_append, List.length_cons, List.length_nil]
    have e : (cod [z]).length = (vry z.toNat).length := by simp [cod]
    omega
def okI (l : List Int) : Prop := ∀ z ∈ l, 0 ≤ z ∧ z < 9223372036854775808
set_option maxRecDepth 100000 in
set_option maxHeartbeats 3200000 in
theorem putl_any (B g : Nat) (A0 : Option Addr) (n0 c0 : Nat) (out : List UInt8) (A : Option Addr) (n c : Nat) (zs : List Int) (w : World) (hR : ∀ W, BelowX B g w W → RdI W W.heap.size A n zs) (hzs : zs.length = n) (hok : okI zs) (hn : n ≤ 1000000) (hn0 : n0 ≤ 1000000000) (hlen : out.length = n0) (hg : g < B) (hB : B ≤ w.heap.size) (hk : Blk w g 25 #[.slice A0 n0 c0]) (hown : w.ownsRow B 5 1 (.slice A0 n0 c0) n0 (out.map b8)) :
    Calls Try.prog 56 #[.slice A n c, .pointer (some ⟨g, 0, none⟩)] w fun e w' => e = .returned (.tuple #[]) ∧ ∃ A' c' m, (out ++ cod zs).length = m ∧ Blk w' g 25 #[.slice A' m c'] ∧ w'.ownsRow B 5 1 (.slice A' m c') m ((out ++ cod zs).map b8) ∧ BelowX B g w w' := by
  have HL := Lib.hid hzs
  have HR := Lib.hid hR
  have HO := Lib.hid hok
  clear hzs hR hok
  go_enter Try.func56, Try.ntmps56
  go_wp2_with fail
  go_loopw [7] (fun i wr => ∃ (j m : Nat) (A1 : Option Addr) (c1 : Nat), j ≤ n ∧ i = .int .i64 (j : Int) ∧ (out ++ cod (zs.take j)).length = m ∧ m ≤ n0 + 10 * j ∧ Blk wr g 25 #[.slice A1 m c1] ∧ wr.ownsRow B 5 1 (.slice A1 m c1) m ((out ++ cod (zs.take j)).map b8) ∧ BelowX B g w wr ∧ B ≤ wr.heap.size) (fun i _ => n - (intOf i).toNat)
  case atStart => exact ⟨0, n0, A0, c0, by omega, rfl, by simpa [cod_nil] using hlen, by omega, hk, by simpa [cod_nil] using hown, BelowX.refl _ _ _, hB⟩
  case round =>
    obtain ⟨j, m, A1, c1, hj, rfl, hm, hm2, hk, hown, hX, hz⟩ := hrel
    have HM := Lib.hid hm
    clear hm
    by_cases hlt : j < n
    · obtain ⟨ad, z, hA, hb, hzj, hc⟩ := (HR.out wr hX).int hlt
      have hz0 := HO.out z (List.mem_of_getElem? hzj)
      obtain ⟨k, rfl⟩ : ∃ k : Nat, z = (k : Int) := ⟨z.toNat, by omega⟩
      have HT := Lib.hid (cod_take hzj)
      rw [Int.toNat_natCast] at HT
      have hv := (vry_len k).2
      subst hA
      clear hzj
      go_wp2_with fail
      refine nop_wp (any_start (by kernel_rfl) calm_nop (fun hQ => ?_))
      replace hk := hk.drew
      replace hown := own_call hown ((Ext.refl wr).draw)
      replace hX := hX.drew
      replace hz : B ≤ wr.drew.heap.size := hz
      have HCC := Lib.hid (List.mem_cons_self (a := 0) (l := []))
      clear hc hb
      generalize wr.drew = x at *
      have c0' : x.cell? ⟨g, 0, none⟩ = some (.slice A1 m c1) := (hk.cell 0).trans rfl
      have hw : IntKind.u64.wrap (k : Int) = (k : Int) := by rw [IntKind.wrap_u64]; omega
      refine any_take (i := 1) (oi := ?oia1x1) (v := ?va1x1) ?hia1x1 (by kernel_rfl) (by kernel_rfl) (by kernel_rfl) hQ ?hwa1x1 ?hya1x1 ?resta1x1
      case hia1x1 => simp only [List.getElem?_toArray, List.getElem?_cons_zero, List.getElem?_cons_succ]; rfl
      case hwa1x1 => rfl
      case hya1x1 => intro W hW; go_simp; with_reducible rfl
      simp only [Act.put, List.setIfInBounds_toArray, List.set_cons_zero, List.set_cons_succ]
      refine any_take (i := 2) (oi := ?oia2x2) (v := ?va2x2) ?hia2x2 (by kernel_rfl) (by kernel_rfl) (by kernel_rfl) hQ ?hwa2x2 ?hya2x2 ?resta2x2
      case hia2x2 => simp only [List.getElem?_toArray, List.getElem?_cons_zero, List.getElem?_cons_succ]; rfl
      case hwa2x2 => rfl
      case hya2x2 => intro W hW; go_simp; with_reducible rfl
      simp only [Act.put, List.setIfInBounds_toArray, List.set_cons_zero, List.set_cons_succ]
      refine any_two (i := 0) (j := 3) (oi := ?oia0x3) (oj := ?oja0x3) (by kernel_rfl) ?hia0x3 ?hja0x3 ?hwa0x3 ?hva0x3 (fun K hK => ?_) (fun K hK => ?_)
      case hia0x3 => simp only [List.getElem?_toArray, List.getElem?_cons_zero]; rfl
      case hja0x3 => simp only [List.getElem?_toArray, List.getElem?_cons_zero, List.getElem?_cons_succ]; rfl
      case hwa0x3 => rfl
      case hva0x3 => rfl
      · go_simp
        refine hK _ _ ?_
        try simp only [Act.put, List.setIfInBounds_toArray, List.set_cons_zero, List.set_cons_succ]
        refine any_one (i := 3) (oi := ?oia3x4) (by kernel_rfl) ?hia3x4 ?hwa3x4 (fun K hK => ?_)
        case hia3x4 => simp only [List.getElem?_toArray, List.getElem?_cons_zero, List.getElem?_cons_succ]; rfl
        case hwa3x4 => rfl
        go_simp
        refine (vary_any k (by omega) _).mono ?_; rintro e w6 ⟨A6, c6, rfl, o6, b⟩; have R6 := own_rd o6; have hk := hk.below b hk.lt; have hown := own_call hown b; have hX := hX.call hz b; have hz := Nat.le_trans hz b.size; have hcc : w6.cell? ⟨g, 0, none⟩ = some (.slice A1 m c1) := (hk.cell 0).trans rfl; refine hK _ _ ?_
        try simp only [Act.put, List.setIfInBounds_toArray, List.set_cons_zero, List.set_cons_succ]
        refine any_one (i := 4) (oi := ?oia4x5) (by kernel_rfl) ?hia4x5 ?hwa4x5 (fun K hK => ?_)
        case hia4x5 => simp only [List.getElem?_toArray, List.getElem?_cons_zero, List.getElem?_cons_succ]; rfl
        case hwa4x5 => rfl
        (refine wp_app8g (.tmp 11) (.tmp 14) _ (by rfl) sl8 B (by rfl) hown (by rfl) R6 (m + (vry k).length) rfl (by omega) hz ?_; intro A7 c7 w7 o7 hg7 b7; have hk7 := hk.grown hg7 (fun h => by have := (hown.lt g h.symm).1; omega); have hX7 := hX.trans (BelowX.of b7 g); have hz7 := Nat.le_trans hz b7.size; have hcd : w7.cell? ⟨g, 0, none⟩ = some (.slice A1 m c1) := (hk7.cell 0).trans rfl; have cf := hk7.frozen 0; refine hK _ _ ?_)
        try simp only [Act.put, List.setIfInBounds_toArray, List.set_cons_zero, List.set_cons_succ]
        refine any_one (i := 5) (oi := ?oia5x6) (by kernel_rfl) ?hia5x6 ?hwa5x6 (fun K hK => ?_)
        case hia5x6 => simp only [List.getElem?_toArray, List.getElem?_cons_zero, List.getElem?_cons_succ]; rfl
        case hwa5x6 => rfl
        go_simp
        refine hK _ _ ?_
        try simp only [Act.put, List.setIfInBounds_toArray, List.set_cons_zero, List.set_cons_succ]
        refine wpAnyH_done (by kernel_rfl) ?_ _
        simp only [NoP]
        go_wp2_with fail
        go_roundw
        case rel => exact ⟨j + 1, m + (vry k).length, A7, c7, by omega, by go_num, by rw [HT.out, ← List.append_assoc, List.length_append, HM.out], by omega, hk7.set_ 0 _, by rw [HT.out, ← List.append_assoc]; exact ownsRow_setCell_other o7 (a := ⟨g, 0, none⟩) (fun h => by have := (o7.lt g h).1; omega) _, hX7.set_ 0 _, by simp; omega⟩
        case measure => simp [intOf]; omega
      · go_simp
        refine (vary_any k (by omega) _).mono ?_; rintro e w6 ⟨A6, c6, rfl, o6, b⟩; have R6 := own_rd o6; have hk := hk.below b hk.lt; have hown := own_call hown b; have hX := hX.call hz b; have hz := Nat.le_trans hz b.size; have hcc : w6.cell? ⟨g, 0, none⟩ = some (.slice A1 m c1) := (hk.cell 0).trans rfl; refine hK _ _ ?_
        try simp only [Act.put, List.setIfInBounds_toArray, List.set_cons_zero, List.set_cons_succ]
        refine any_one (i := 0) (oi := ?oia0x7) (by kernel_rfl) ?hia0x7 ?hwa0x7 (fun K hK => ?_)
        case hia0x7 => simp only [List.getElem?_toArray, List.getElem?_cons_zero]; rfl
        case hwa0x7 => rfl
        go_simp
        refine hK _ _ ?_
        try simp only [Act.put, List.setIfInBounds_toArray, List.set_cons_zero, List.set_cons_succ]
        refine any_one (i := 4) (oi := ?oia4x8) (by kernel_rfl) ?hia4x8 ?hwa4x8 (fun K hK => ?_)
        case hia4x8 => simp only [List.getElem?_toArray, List.getElem?_cons_zero, List.getElem?_cons_succ]; rfl
        case hwa4x8 => rfl
        (refine wp_app8g (.tmp 11) (.tmp 14) _ (by rfl) sl8 B (by rfl) hown (by rfl) R6 (m + (vry k).length) rfl (by omega) hz ?_; intro A7 c7 w7 o7 hg7 b7; have hk7 := hk.grown hg7 (fun h => by have := (hown.lt g h.symm).1; omega); have hX7 := hX.trans (BelowX.of b7 g); have hz7 := Nat.le_trans hz b7.size; have hcd : w7.cell? ⟨g, 0, none⟩ = some (.slice A1 m c1) := (hk7.cell 0).trans rfl; have cf := hk7.frozen 0; refine hK _ _ ?_)
        try simp only [Act.put, List.setIfInBounds_toArray, List.set_cons_zero, List.set_cons_succ]
        refine any_one (i := 5) (oi := ?oia5x9) (by kernel_rfl) ?hia5x9 ?hwa5x9 (fun K hK => ?_)
        case hia5x9 => simp only [List.getElem?_toArray, List.getElem?_cons_zero, List.getElem?_cons_succ]; rfl
        case hwa5x9 => rfl
        go_simp
        refine hK _ _ ?_
        try simp only [Act.put, List.setIfInBounds_toArray, List.set_cons_zero, List.set_cons_succ]
        refine wpAnyH_done (by kernel_rfl) ?_ _
        simp only [NoP]
        go_wp2_with fail
        go_roundw
        case rel => exact ⟨j + 1, m + (vry k).length, A7, c7, by omega, by go_num, by rw [HT.out, ← List.append_assoc, List.length_append, HM.out], by omega, hk7.set_ 0 _, by rw [HT.out, ← List.append_assoc]; exact ownsRow_setCell_other o7 (a := ⟨g, 0, none⟩) (fun h => by have := (o7.lt g h).1; omega) _, hX7.set_ 0 _, by simp; omega⟩
        case measure => simp [intOf]; omega

    · have hjn : j = n := by omega
      have HT := Lib.hid (show zs.take j = zs from List.take_of_length_le (by rw [HL.out]; omega))
      rw [HT.out] at hown HM
      clear hjn
      go_wp2_with fail
      go_end0
      exact ⟨rfl, A1, c1, m, HM.out, hk, hown, hX⟩

end Go.Proofs.Ytldaijkcmnnjpaa
