/- The walk of MemoryWrites. -/
import Derived.Test.YtponceakelimeaaMemOpen
import Derived.Test.YtponceakelimeaaRet3
namespace Go.Proofs.Ytponceakelimeaa
open Go.RowKit Wire
set_option linter.unusedVariables false

/-- Regions that a call has made, none of whose rows is block q. -/
def OwX (w : World) (q : Nat) (A : Option Addr) (n : Nat) (L : List (Nat × List UInt8)) : Prop :=
  L.length = n ∧ ∃ (B c : Nat) (vs : List (List Value)), vs.length = n ∧ (∀ u ∈ vs, u.length = 2) ∧ w.ownsRow B 25 2 (.slice A n c) n vs.flatten ∧ (Value.slice A n c).ownBlock ≠ some q ∧
    ∀ (k : Nat) (p : Nat × List UInt8), L[k]? = some p → ∃ Ai ci, vs[k]? = some [.int .u64 (p.1 : Int), .slice Ai p.2.length ci] ∧ w.ownsRow B 5 1 (.slice Ai p.2.length ci) p.2.length (p.2.map b8) ∧ (Value.slice Ai p.2.length ci).ownBlock ≠ some q ∧ p.1 < 18446744073709551616
theorem OwR.toLt {w : World} {B n c q : Nat} {A : Option Addr} {L : List (Nat × List UInt8)} (h : OwR w B A n c L) (hq : q < B) : OwX w q A n L := by
  obtain ⟨h1, vs, h2, h3, h4, h5⟩ := h
  refine ⟨h1, B, c, vs, h2, fun u hu => (h3 u hu).1, h4, fun e => by have := (h4.lt _ e).1; omega, fun k p hp => ?_⟩
  obtain ⟨Ai, ci, g1, g2, g3⟩ := h5 k p hp
  exact ⟨Ai, ci, g1, g2, fun e => by have := (g2.lt _ e).1; omega, g3⟩
theorem OwR.toNew {w : World} {B n c : Nat} {A : Option Addr} {L : List (Nat × List UInt8)} (h : OwR w B A n c L) (ob : Obj) : OwX (w.alloc ob) w.heap.size A n L := by
  have b := Ext.al w ob
  obtain ⟨h1, vs, h2, h3, h4, h5⟩ := h
  refine ⟨h1, B, c, vs, h2, fun u hu => (h3 u hu).1, own_call h4 b, fun e => by have := (h4.lt _ e).2; omega, fun k p hp => ?_⟩
  obtain ⟨Ai, ci, g1, g2, g3⟩ := h5 k p hp
  exact ⟨Ai, ci, g1, own_call g2 b, fun e => by have := (g2.lt _ e).2; omega, g3⟩
theorem OwX.call {w w' : World} {q n : Nat} {A : Option Addr} {L : List (Nat × List UInt8)} (h : OwX w q A n L) (b : Below w.heap.size w w') : OwX w' q A n L := by
  obtain ⟨h1, B, c, vs, h2, h3, h4, h6, h5⟩ := h
  refine ⟨h1, B, c, vs, h2, h3, own_call h4 b, h6, fun k p hp => ?_⟩
  obtain ⟨Ai, ci, g1, g2, g3, g4⟩ := h5 k p hp
  exact ⟨Ai, ci, g1, own_call g2 b, g3, g4⟩
theorem OwX.set_ {w : World} {q n : Nat} {A : Option Addr} {L : List (Nat × List UInt8)} (h : OwX w q A n L) (i : Nat) (u : Value) : OwX (w.setCell ⟨q, i, none⟩ u) q A n L := by
  obtain ⟨h1, B, c, vs, h2, h3, h4, h6, h5⟩ := h
  refine ⟨h1, B, c, vs, h2, h3, ownsRow_setCell_other h4 (a := ⟨q, i, none⟩) h6 u, h6, fun k p hp => ?_⟩
  obtain ⟨Ai, ci, g1, g2, g3, g4⟩ := h5 k p hp
  exact ⟨Ai, ci, g1, ownsRow_setCell_other g2 (a := ⟨q, i, none⟩) g3 u, g3, g4⟩
theorem OwX.rd {w : World} {q n : Nat} {A : Option Addr} {L : List (Nat × List UInt8)} (h : OwX w q A n L) : RdR w A n L := by
  obtain ⟨h1, B, c, vs, h2, h3, h4, h6, h5⟩ := h
  refine ⟨h1, vs, h2, h3, Reads.of_own h4, fun k p hp => ?_⟩
  obtain ⟨Ai, ci, g1, g2, g3, g4⟩ := h5 k p hp
  exact ⟨Ai, ci, g1, own_cap g2, own_rd g2, g4⟩
/-- One region, written out as a list. -/
theorem rdR_one {w : World} {b n c : Nat} {A : Option Addr} {l : List UInt8} (hr : Rb w A n l) (hc : n ≤ c ∧ c ≤ 9223372036854775807) (hb : b < 18446744073709551616) :
    RdR (w.alloc (.cells #[.int .u64 (b : Int), .slice A n c] 25)) (some ⟨w.heap.size, 0, none⟩) 1 [(b, l)] := by
  have hl := hr.len8
  subst hl
  refine ⟨rfl, [[.int .u64 (b : Int), .slice A l.length c]], rfl, by simp, by simpa using reads_two w (.int .u64 (b : Int)) (.slice A l.length c) 25, fun k p hp => ?_⟩
  rcases k with _ | k
  · simp at hp
    subst hp
    exact ⟨A, c, rfl, hc, hr.mv (Ext.al w _), hb⟩
  · simp at hp
/-- What a list of one region, that a call has made, holds. -/
theorem OwR.one {w : World} {B c b : Nat} {A : Option Addr} {l : List UInt8} (h : OwR w B A 1 c [(b, l)]) : ∃ g A3 c3, A = some ⟨g, 0, none⟩ ∧ Reads w w.heap.size 2 (some ⟨g, 0, none⟩) 1 [.int .u64 (b : Int), .slice A3 l.length c3] ∧ w.ownsRow B 5 1 (.slice A3 l.length c3) l.length (l.map b8) := by
  obtain ⟨h1, vs, h2, h3, h4, h5⟩ := h
  obtain ⟨g, rfl, _⟩ := own_head h4 (by omega)
  obtain ⟨Ai, ci, g1, g2, g3⟩ := h5 0 (b, l) rfl
  refine ⟨g, Ai, ci, rfl, ?_, g2⟩
  have hr := Reads.of_own h4
  match vs, h2 with
  | [u], _ =>
    simp at g1
    subst g1
    simpa using hr
theorem grB_one (b : Nat) (l : List UInt8) : grB [(b, l)] = decide (20000 < l.length) := by
  simp only [grB, sumL]
  rw [Bool.eq_iff_iff]
  simp
  omega

set_option maxRecDepth 100000 in
set_option maxHeartbeats 8000000 in
theorem memoryWrites_walk (w : World) (z : Nat) (A : Option Addr) (n c : Nat) (l : List UInt8) (hr : Rb w A n l) (hc : n ≤ c ∧ c ≤ 9223372036854775807) (hb : z < 18446744073709551616) (A2 : Option Addr) (n2 c2 : Nat) (L : List (Nat × List UInt8)) (hl : RdR w A2 n2 L) (hc2 : n2 ≤ c2 ∧ c2 ≤ 9223372036854775807) :
    Calls Try.prog 3 #[rgn z A n c, .slice A2 n2 c2] w fun e w' => e = .returned (.bool true) ∧ Below w.heap.size w w' := by
  have hn := hr.len8
  subst hn
  have hB := (Below.refl w.heap.size w).alloc (Nat.le_refl _) (.cells #[.int .u64 (z : Int), .slice A l.length c] 25)
  have hk := Blk.new w 25 #[.int .u64 (z : Int), .slice A l.length c]
  have R := hr.mv hB
  have RL := hl.mv hB
  have HG1 := Lib.hid (grB_one z l)
  have HD := Lib.hid (@grB_bd L)
  have S1 := rdR_one R hc hb
  rw [alloc_size] at S1
  clear hr hl
  obtain ⟨g1, hg1⟩ : ∃ g1, grB [(z, l)] = g1 := ⟨_, rfl⟩
  obtain ⟨g2, hg2⟩ : ∃ g2, grB L = g2 := ⟨_, rfl⟩
  have HG := Lib.hid (And.intro hg1 hg2)
  clear hg1 hg2
  go_enter Try.func3, Try.ntmps3
  have b := Ext.al (w.alloc (.cells #[.int .u64 (z : Int), .slice A l.length c] 25)) (.cells #[.int .u64 (z : Int), .slice A l.length c] 25)
  have hq := Blk.new (w.alloc (.cells #[.int .u64 (z : Int), .slice A l.length c] 25)) 25 #[.int .u64 (z : Int), .slice A l.length c]
  have o_hk_hq := hk.lt
  replace R := R.mv b
  replace RL := RL.mv b
  replace hk := hk.below b hk.lt
  replace hB := hB.trans (b.mono hB.size)
  clear b
  clear hq
  have z1 : ((w.alloc (.cells #[.int .u64 (z : Int), .slice A l.length c] 25)).alloc (.cells #[.int .u64 (z : Int), .slice A l.length c] 25)).cell? ⟨w.heap.size, 0, none⟩ = some (.int .u64 (z : Int)) := (hk.cell 0).trans rfl
  have z2 : ((w.alloc (.cells #[.int .u64 (z : Int), .slice A l.length c] 25)).alloc (.cells #[.int .u64 (z : Int), .slice A l.length c] 25)).cell? ⟨w.heap.size, 1, none⟩ = some (.slice A l.length c) := (hk.cell 1).trans rfl
  go_wp2_with fail
  clear z1 z2
  generalize (w.alloc (.cells #[.int .u64 (z : Int), .slice A l.length c] 25)).alloc (.cells #[.int .u64 (z : Int), .slice A l.length c] 25) = w1 at *
  refine (great26_any _ 1 1 [(z, l)] _ S1 (by omega)).mono ?_
  rintro e wq ⟨rfl, rfl⟩
  rw [HG.out.1]
  clear S1
  cases g1
  rotate_left
  · go_wp2_with fail
    go_ret
    exact ⟨rfl, hB⟩
  go_wp2_with fail
  refine (great26_any A2 n2 c2 L _ RL (by omega)).mono ?_
  rintro e wq ⟨rfl, rfl⟩
  rw [HG.out.2]
  cases g2
  rotate_left
  · go_wp2_with fail
    go_ret
    exact ⟨rfl, hB⟩
  have hn2 := (HD.out HG.out.2).1
  have hbd : ∀ p ∈ L, p.2.length ≤ 1000000 := fun p hp => by have := (HD.out HG.out.2).2.1 p hp; omega
  have hlb : l.length ≤ 20000 := by have h := HG1.out; rw [HG.out.1] at h; simpa using h.symm
  have hL2 := RL.1
  go_wp2_with fail
  go_cut [5, 6] (fun s5 s6 wx => ∃ (p : Nat) (A3 : Option Addr) (c3 : Nat) (A6 : Option Addr) (c6 : Nat), s5 = .pointer (some ⟨p, 0, none⟩) ∧ s6 = .slice A6 n2 c6 ∧ Blk wx p 25 #[.int .u64 (z : Int), .slice A3 l.length c3] ∧ Rb wx A3 l.length l ∧ RdR wx A6 n2 L ∧ Below w1.heap.size w1 wx)
  case first =>
    refine bx_start (w1.heap.size) (w1.heap.size) (by kernel_rfl) (fun hQ => ?_)
    have hx := (Below.refl w1.heap.size w1).drew
    generalize w1.drew = x at *
    have X0 : ∀ W, BelowX w1.heap.size w1.heap.size x W → W.cell? ⟨w.heap.size, 0, none⟩ = some (.int .u64 (z : Int)) := fun W h => ((hk.below (hx.trans (BelowXe h)) hk.lt).cell 0).trans rfl
    have X1 : ∀ W, BelowX w1.heap.size w1.heap.size x W → W.cell? ⟨w.heap.size, 1, none⟩ = some (.slice A l.length c) := fun W h => ((hk.below (hx.trans (BelowXe h)) hk.lt).cell 1).trans rfl
    refine bx_take (i := 0) (oi := ?oia0x1) (v := ?va0x1) ?hia0x1 (by kernel_rfl) (by kernel_rfl) (by kernel_rfl) hQ ?hwa0x1 ?hya0x1 ?resta0x1
    case hia0x1 => simp only [List.getElem?_toArray, List.getElem?_cons_zero]; rfl
    case hwa0x1 => rfl
    case hya0x1 => intro W hW; go_simp; with_reducible rfl
    simp only [Act.put, List.setIfInBounds_toArray, List.set_cons_zero, List.set_cons_succ]
    refine bx_take (i := 5) (oi := ?oia5x2) (v := ?va5x2) ?hia5x2 (by kernel_rfl) (by kernel_rfl) (by kernel_rfl) hQ ?hwa5x2 ?hya5x2 ?resta5x2
    case hia5x2 => simp only [List.getElem?_toArray, List.getElem?_cons_zero, List.getElem?_cons_succ]; rfl
    case hwa5x2 => rfl
    case hya5x2 => intro W hW; go_simp; with_reducible rfl
    simp only [Act.put, List.setIfInBounds_toArray, List.set_cons_zero, List.set_cons_succ]
    refine bx_two (i := 1) (j := 7) (oi := ?oia1x3) (oj := ?oja1x3) (by kernel_rfl) ?hia1x3 ?hja1x3 ?hwa1x3 ?hva1x3 (fun K hK => ?_) (fun K hK => ?_)
    case hia1x3 => simp only [List.getElem?_toArray, List.getElem?_cons_zero, List.getElem?_cons_succ]; rfl
    case hja1x3 => simp only [List.getElem?_toArray, List.getElem?_cons_zero, List.getElem?_cons_succ]; rfl
    case hwa1x3 => rfl
    case hva1x3 => rfl
    · go_simp
      have hz := hx.size; have b1 := Ext.al x (.cells #[.int .u64 (z : Int), .slice A l.length c] 25); have S1 := rdR_one (Reads.mv R hx) hc hb; (try replace S1 := S1.mv b1); (try replace T1 := T1.mv b1); (try replace o3 := own_call o3 b1); (try replace o2 := o2.call b1); (try replace T2 := T2.call b1); (try replace hp := hp.below b1 hp.lt); replace hx := hx.trans (Below.mono b1 hz); refine hK _ _ (BelowX.of (Below.mono b1 hz) _) ?_; clear b1; generalize x.heap.size = g1 at *; generalize x.alloc (.cells #[.int .u64 (z : Int), .slice A l.length c] 25) = x at *
      try simp only [Act.put, List.setIfInBounds_toArray, List.set_cons_zero, List.set_cons_succ]
      refine bx_two (i := 2) (j := 7) (oi := ?oia2x4) (oj := ?oja2x4) (by kernel_rfl) ?hia2x4 ?hja2x4 ?hwa2x4 ?hva2x4 (fun K hK => ?_) (fun K hK => ?_)
      case hia2x4 => simp only [List.getElem?_toArray, List.getElem?_cons_zero, List.getElem?_cons_succ]; rfl
      case hja2x4 => simp only [List.getElem?_toArray, List.getElem?_cons_zero, List.getElem?_cons_succ]; rfl
      case hwa2x4 => rfl
      case hva2x4 => rfl
      · go_simp
        have hz := hx.size; refine (twin26_any _ 1 1 [(z, l)] x S1 (by omega) (by simp; omega)).mono ?_; rintro e x ⟨A1, c1, rfl, o1, b1⟩; clear S1; (try replace S1 := S1.mv b1); (try replace T1 := T1.mv b1); (try replace o3 := own_call o3 b1); (try replace o2 := o2.call b1); (try replace T2 := T2.call b1); (try replace hp := hp.below b1 hp.lt); replace hx := hx.trans (b1.mono hz); obtain ⟨g1, A3, c3, rfl, T1, o3⟩ := o1.one; refine hK _ _ (BelowX.of (b1.mono hz) _) ?_; clear o1 b1
        try simp only [Act.put, List.setIfInBounds_toArray, List.set_cons_zero, List.set_cons_succ]
        refine bx_take (i := 3) (oi := ?oia3x5) (v := ?va3x5) ?hia3x5 (by kernel_rfl) (by kernel_rfl) (by kernel_rfl) hQ ?hwa3x5 ?hya3x5 ?resta3x5
        case hia3x5 => simp only [List.getElem?_toArray, List.getElem?_cons_zero, List.getElem?_cons_succ]; rfl
        case hwa3x5 => rfl
        case hya3x5 => intro W hW; go_simp; with_reducible rfl
        simp only [Act.put, List.setIfInBounds_toArray, List.set_cons_zero, List.set_cons_succ]
        refine bx_three (i := 4) (j := 6) (k := 7) (oi := ?oia4x6) (oj := ?oja4x6) (ok := ?oka4x6) (by kernel_rfl) ?hia4x6 ?hja4x6 ?hka4x6 ?hwa4x6 ?hva4x6 ?hua4x6 (fun K hK => ?_) (fun K hK => ?_) (fun K hK => ?_)
        case hia4x6 => simp only [List.getElem?_toArray, List.getElem?_cons_zero, List.getElem?_cons_succ]; rfl
        case hja4x6 => simp only [List.getElem?_toArray, List.getElem?_cons_zero, List.getElem?_cons_succ]; rfl
        case hka4x6 => simp only [List.getElem?_toArray, List.getElem?_cons_zero, List.getElem?_cons_succ]; rfl
        case hwa4x6 => rfl
        case hva4x6 => rfl
        case hua4x6 => rfl
        · go_simp
          have k0 := reads_cell T1 (by omega) 0 (v := .int .u64 (z : Int)) rfl; have k1 := reads_cell T1 (by omega) 1 (v := .slice A3 l.length c3) rfl; go_simp; refine hK _ _ (BelowX.refl _ _ _) ?_; clear k0 k1
          try simp only [Act.put, List.setIfInBounds_toArray, List.set_cons_zero, List.set_cons_succ]
          refine bx_two (i := 6) (j := 7) (oi := ?oia6x7) (oj := ?oja6x7) (by kernel_rfl) ?hia6x7 ?hja6x7 ?hwa6x7 ?hva6x7 (fun K hK => ?_) (fun K hK => ?_)
          case hia6x7 => simp only [List.getElem?_toArray, List.getElem?_cons_zero, List.getElem?_cons_succ]; rfl
          case hja6x7 => simp only [List.getElem?_toArray, List.getElem?_cons_zero, List.getElem?_cons_succ]; rfl
          case hwa6x7 => rfl
          case hva6x7 => rfl
          · go_simp
            have hz := hx.size; refine (twin26_any A2 n2 c2 L x (RL.mv hx) (by omega) hbd).mono ?_; rintro e x ⟨A6, c6, rfl, o2, b1⟩; (try replace S1 := S1.mv b1); (try replace T1 := T1.mv b1); (try replace o3 := own_call o3 b1); (try (have T2 := o2.toLt hp.lt; replace hp := hp.below b1 hp.lt)); replace hx := hx.trans (b1.mono hz); refine hK _ _ (BelowX.of (b1.mono hz) _) ?_; clear b1
            try simp only [Act.put, List.setIfInBounds_toArray, List.set_cons_zero, List.set_cons_succ]
            refine bx_step (i := 7) (oi := ?oia7x8) (by kernel_rfl) ?hia7x8 ?hwa7x8 (fun K hK => ?_)
            case hia7x8 => simp only [List.getElem?_toArray, List.getElem?_cons_zero, List.getElem?_cons_succ]; rfl
            case hwa7x8 => rfl
            go_simp
            have hz := hx.size; have b1 := Ext.al x (.cells #[.int .u64 0, .slice none 0 0] 25); have hp := Blk.new x 25 #[.int .u64 0, .slice none 0 0]; have hpz : w1.heap.size ≤ x.heap.size := hz; (try (have T2 := o2.toNew (.cells #[.int .u64 0, .slice none 0 0] 25))); (try replace S1 := S1.mv b1); (try replace T1 := T1.mv b1); (try replace o3 := own_call o3 b1); replace hx := hx.trans (Below.mono b1 hz); refine hK _ _ (BelowX.of (Below.mono b1 hz) _) ?_; clear b1; (try clear o2); generalize x.heap.size = p at *; generalize x.alloc (.cells #[.int .u64 0, .slice none 0 0] 25) = x at *
            try simp only [Act.put, List.setIfInBounds_toArray, List.set_cons_zero, List.set_cons_succ]
            refine bx_step (i := 8) (oi := ?oia8x9) (by kernel_rfl) ?hia8x9 ?hwa8x9 (fun K hK => ?_)
            case hia8x9 => simp only [List.getElem?_toArray, List.getElem?_cons_zero, List.getElem?_cons_succ]; rfl
            case hwa8x9 => rfl
            have s0 := (hp.cell 0).trans (show _ = some (.int .u64 0) from rfl); have s1 := (hp.cell 1).trans (show _ = some (.slice none 0 0) from rfl); have f0 := hp.frozen 0; have f1 := hp.frozen 1; go_simp; clear s0 s1 f0 f1; refine hK _ _ (((BelowX.refl _ _ _).setHi hpz 0 _).setHi hpz 1 _) ?_; replace T2 := (T2.set_ 0 (.int .u64 (z : Int))).set_ 1 (.slice A3 l.length c3); replace o3 := own_setNe o3 hp (by decide : (5 : Nat) ≠ 25) 0 (.int .u64 (z : Int)); replace o3 := own_setNe o3 (hp.set_ 0 (.int .u64 (z : Int))) (by decide : (5 : Nat) ≠ 25) 1 (.slice A3 l.length c3); replace hp := (hp.set_ 0 (.int .u64 (z : Int))).set_ 1 (.slice A3 l.length c3); replace hx := setHiB (setHiB hx hpz 0 (.int .u64 (z : Int))) hpz 1 (.slice A3 l.length c3)
            try simp only [Act.put, List.setIfInBounds_toArray, List.set_cons_zero, List.set_cons_succ]
            refine bx_take (i := 9) (oi := ?oia9x10) (v := ?va9x10) ?hia9x10 (by kernel_rfl) (by kernel_rfl) (by kernel_rfl) hQ ?hwa9x10 ?hya9x10 ?resta9x10
            case hia9x10 => simp only [List.getElem?_toArray, List.getElem?_cons_zero, List.getElem?_cons_succ]; rfl
            case hwa9x10 => rfl
            case hya9x10 => intro W hW; go_simp; with_reducible rfl
            simp only [Act.put, List.setIfInBounds_toArray, List.set_cons_zero, List.set_cons_succ]
            refine wpAnyH_done (by kernel_rfl) ?_ _
            simp only [NoP]
            go_wp2_with fail
            go_meet
            case rel => exact ⟨_, _, _, _, _, rfl, rfl, hp, own_rd o3, T2.rd, hx⟩
          · go_simp
            have hz := hx.size; have b1 := Ext.al x (.cells #[.int .u64 0, .slice none 0 0] 25); have hp := Blk.new x 25 #[.int .u64 0, .slice none 0 0]; have hpz : w1.heap.size ≤ x.heap.size := hz; (try (have T2 := o2.toNew (.cells #[.int .u64 0, .slice none 0 0] 25))); (try replace S1 := S1.mv b1); (try replace T1 := T1.mv b1); (try replace o3 := own_call o3 b1); replace hx := hx.trans (Below.mono b1 hz); refine hK _ _ (BelowX.of (Below.mono b1 hz) _) ?_; clear b1; (try clear o2); generalize x.heap.size = p at *; generalize x.alloc (.cells #[.int .u64 0, .slice none 0 0] 25) = x at *
            try simp only [Act.put, List.setIfInBounds_toArray, List.set_cons_zero, List.set_cons_succ]
            refine bx_step (i := 6) (oi := ?oia6x11) (by kernel_rfl) ?hia6x11 ?hwa6x11 (fun K hK => ?_)
            case hia6x11 => simp only [List.getElem?_toArray, List.getElem?_cons_zero, List.getElem?_cons_succ]; rfl
            case hwa6x11 => rfl
            go_simp
            have hz := hx.size; refine (twin26_any A2 n2 c2 L x (RL.mv hx) (by omega) hbd).mono ?_; rintro e x ⟨A6, c6, rfl, o2, b1⟩; (try replace S1 := S1.mv b1); (try replace T1 := T1.mv b1); (try replace o3 := own_call o3 b1); (try (have T2 := o2.toLt hp.lt; replace hp := hp.below b1 hp.lt)); replace hx := hx.trans (b1.mono hz); refine hK _ _ (BelowX.of (b1.mono hz) _) ?_; clear b1
            try simp only [Act.put, List.setIfInBounds_toArray, List.set_cons_zero, List.set_cons_succ]
            refine bx_step (i := 8) (oi := ?oia8x12) (by kernel_rfl) ?hia8x12 ?hwa8x12 (fun K hK => ?_)
            case hia8x12 => simp only [List.getElem?_toArray, List.getElem?_cons_zero, List.getElem?_cons_succ]; rfl
            case hwa8x12 => rfl
            have s0 := (hp.cell 0).trans (show _ = some (.int .u64 0) from rfl); have s1 := (hp.cell 1).trans (show _ = some (.slice none 0 0) from rfl); have f0 := hp.frozen 0; have f1 := hp.frozen 1; go_simp; clear s0 s1 f0 f1; refine hK _ _ (((BelowX.refl _ _ _).setHi hpz 0 _).setHi hpz 1 _) ?_; replace T2 := (T2.set_ 0 (.int .u64 (z : Int))).set_ 1 (.slice A3 l.length c3); replace o3 := own_setNe o3 hp (by decide : (5 : Nat) ≠ 25) 0 (.int .u64 (z : Int)); replace o3 := own_setNe o3 (hp.set_ 0 (.int .u64 (z : Int))) (by decide : (5 : Nat) ≠ 25) 1 (.slice A3 l.length c3); replace hp := (hp.set_ 0 (.int .u64 (z : Int))).set_ 1 (.slice A3 l.length c3); replace hx := setHiB (setHiB hx hpz 0 (.int .u64 (z : Int))) hpz 1 (.slice A3 l.length c3)
            try simp only [Act.put, List.setIfInBounds_toArray, List.set_cons_zero, List.set_cons_succ]
            refine bx_take (i := 9) (oi := ?oia9x13) (v := ?va9x13) ?hia9x13 (by kernel_rfl) (by kernel_rfl) (by kernel_rfl) hQ ?hwa9x13 ?hya9x13 ?resta9x13
            case hia9x13 => simp only [List.getElem?_toArray, List.getElem?_cons_zero, List.getElem?_cons_succ]; rfl
            case hwa9x13 => rfl
            case hya9x13 => intro W hW; go_simp; with_reducible rfl
            simp only [Act.put, List.setIfInBounds_toArray, List.set_cons_zero, List.set_cons_succ]
            refine wpAnyH_done (by kernel_rfl) ?_ _
            simp only [NoP]
            go_wp2_with fail
            go_meet
            case rel => exact ⟨_, _, _, _, _, rfl, rfl, hp, own_rd o3, T2.rd, hx⟩
        · go_simp
          have hz := hx.size; refine (twin26_any A2 n2 c2 L x (RL.mv hx) (by omega) hbd).mono ?_; rintro e x ⟨A6, c6, rfl, o2, b1⟩; (try replace S1 := S1.mv b1); (try replace T1 := T1.mv b1); (try replace o3 := own_call o3 b1); (try (have T2 := o2.toLt hp.lt; replace hp := hp.below b1 hp.lt)); replace hx := hx.trans (b1.mono hz); refine hK _ _ (BelowX.of (b1.mono hz) _) ?_; clear b1
          try simp only [Act.put, List.setIfInBounds_toArray, List.set_cons_zero, List.set_cons_succ]
          refine bx_two (i := 4) (j := 7) (oi := ?oia4x14) (oj := ?oja4x14) (by kernel_rfl) ?hia4x14 ?hja4x14 ?hwa4x14 ?hva4x14 (fun K hK => ?_) (fun K hK => ?_)
          case hia4x14 => simp only [List.getElem?_toArray, List.getElem?_cons_zero, List.getElem?_cons_succ]; rfl
          case hja4x14 => simp only [List.getElem?_toArray, List.getElem?_cons_zero, List.getElem?_cons_succ]; rfl
          case hwa4x14 => rfl
          case hva4x14 => rfl
          · go_simp
            have k0 := reads_cell T1 (by omega) 0 (v := .int .u64 (z : Int)) rfl; have k1 := reads_cell T1 (by omega) 1 (v := .slice A3 l.length c3) rfl; go_simp; refine hK _ _ (BelowX.refl _ _ _) ?_; clear k0 k1
            try simp only [Act.put, List.setIfInBounds_toArray, List.set_cons_zero, List.set_cons_succ]
            refine bx_step (i := 7) (oi := ?oia7x15) (by kernel_rfl) ?hia7x15 ?hwa7x15 (fun K hK => ?_)
            case hia7x15 => simp only [List.getElem?_toArray, List.getElem?_cons_zero, List.getElem?_cons_succ]; rfl
            case hwa7x15 => rfl
            go_simp
            have hz := hx.size; have b1 := Ext.al x (.cells #[.int .u64 0, .slice none 0 0] 25); have hp := Blk.new x 25 #[.int .u64 0, .slice none 0 0]; have hpz : w1.heap.size ≤ x.heap.size := hz; (try (have T2 := o2.toNew (.cells #[.int .u64 0, .slice none 0 0] 25))); (try replace S1 := S1.mv b1); (try replace T1 := T1.mv b1); (try replace o3 := own_call o3 b1); replace hx := hx.trans (Below.mono b1 hz); refine hK _ _ (BelowX.of (Below.mono b1 hz) _) ?_; clear b1; (try clear o2); generalize x.heap.size = p at *; generalize x.alloc (.cells #[.int .u64 0, .slice none 0 0] 25) = x at *
            try simp only [Act.put, List.setIfInBounds_toArray, List.set_cons_zero, List.set_cons_succ]
            refine bx_step (i := 8) (oi := ?oia8x16) (by kernel_rfl) ?hia8x16 ?hwa8x16 (fun K hK => ?_)
            case hia8x16 => simp only [List.getElem?_toArray, List.getElem?_cons_zero, List.getElem?_cons_succ]; rfl
            case hwa8x16 => rfl
            have s0 := (hp.cell 0).trans (show _ = some (.int .u64 0) from rfl); have s1 := (hp.cell 1).trans (show _ = some (.slice none 0 0) from rfl); have f0 := hp.frozen 0; have f1 := hp.frozen 1; go_simp; clear s0 s1 f0 f1; refine hK _ _ (((BelowX.refl _ _ _).setHi hpz 0 _).setHi hpz 1 _) ?_; replace T2 := (T2.set_ 0 (.int .u64 (z : Int))).set_ 1 (.slice A3 l.length c3); replace o3 := own_setNe o3 hp (by decide : (5 : Nat) ≠ 25) 0 (.int .u64 (z : Int)); replace o3 := own_setNe o3 (hp.set_ 0 (.int .u64 (z : Int))) (by decide : (5 : Nat) ≠ 25) 1 (.slice A3 l.length c3); replace hp := (hp.set_ 0 (.int .u64 (z : Int))).set_ 1 (.slice A3 l.length c3); replace hx := setHiB (setHiB hx hpz 0 (.int .u64 (z : Int))) hpz 1 (.slice A3 l.length c3)
            try simp only [Act.put, List.setIfInBounds_toArray, List.set_cons_zero, List.set_cons_succ]
            refine bx_take (i := 9) (oi := ?oia9x17) (v := ?va9x17) ?hia9x17 (by kernel_rfl) (by kernel_rfl) (by kernel_rfl) hQ ?hwa9x17 ?hya9x17 ?resta9x17
            case hia9x17 => simp only [List.getElem?_toArray, List.getElem?_cons_zero, List.getElem?_cons_succ]; rfl
            case hwa9x17 => rfl
            case hya9x17 => intro W hW; go_simp; with_reducible rfl
            simp only [Act.put, List.setIfInBounds_toArray, List.set_cons_zero, List.set_cons_succ]
            refine wpAnyH_done (by kernel_rfl) ?_ _
            simp only [NoP]
            go_wp2_with fail
            go_meet
            case rel => exact ⟨_, _, _, _, _, rfl, rfl, hp, own_rd o3, T2.rd, hx⟩
          · go_simp
            have hz := hx.size; have b1 := Ext.al x (.cells #[.int .u64 0, .slice none 0 0] 25); have hp := Blk.new x 25 #[.int .u64 0, .slice none 0 0]; have hpz : w1.heap.size ≤ x.heap.size := hz; (try (have T2 := o2.toNew (.cells #[.int .u64 0, .slice none 0 0] 25))); (try replace S1 := S1.mv b1); (try replace T1 := T1.mv b1); (try replace o3 := own_call o3 b1); replace hx := hx.trans (Below.mono b1 hz); refine hK _ _ (BelowX.of (Below.mono b1 hz) _) ?_; clear b1; (try clear o2); generalize x.heap.size = p at *; generalize x.alloc (.cells #[.int .u64 0, .slice none 0 0] 25) = x at *
            try simp only [Act.put, List.setIfInBounds_toArray, List.set_cons_zero, List.set_cons_succ]
            refine bx_step (i := 4) (oi := ?oia4x18) (by kernel_rfl) ?hia4x18 ?hwa4x18 (fun K hK => ?_)
            case hia4x18 => simp only [List.getElem?_toArray, List.getElem?_cons_zero, List.getElem?_cons_succ]; rfl
            case hwa4x18 => rfl
            go_simp
            have k0 := reads_cell T1 (by omega) 0 (v := .int .u64 (z : Int)) rfl; have k1 := reads_cell T1 (by omega) 1 (v := .slice A3 l.length c3) rfl; go_simp; refine hK _ _ (BelowX.refl _ _ _) ?_; clear k0 k1
            try simp only [Act.put, List.setIfInBounds_toArray, List.set_cons_zero, List.set_cons_succ]
            refine bx_step (i := 8) (oi := ?oia8x19) (by kernel_rfl) ?hia8x19 ?hwa8x19 (fun K hK => ?_)
            case hia8x19 => simp only [List.getElem?_toArray, List.getElem?_cons_zero, List.getElem?_cons_succ]; rfl
            case hwa8x19 => rfl
            have s0 := (hp.cell 0).trans (show _ = some (.int .u64 0) from rfl); have s1 := (hp.cell 1).trans (show _ = some (.slice none 0 0) from rfl); have f0 := hp.frozen 0; have f1 := hp.frozen 1; go_simp; clear s0 s1 f0 f1; refine hK _ _ (((BelowX.refl _ _ _).setHi hpz 0 _).setHi hpz 1 _) ?_; replace T2 := (T2.set_ 0 (.int .u64 (z : Int))).set_ 1 (.slice A3 l.length c3); replace o3 := own_setNe o3 hp (by decide : (5 : Nat) ≠ 25) 0 (.int .u64 (z : Int)); replace o3 := own_setNe o3 (hp.set_ 0 (.int .u64 (z : Int))) (by decide : (5 : Nat) ≠ 25) 1 (.slice A3 l.length c3); replace hp := (hp.set_ 0 (.int .u64 (z : Int))).set_ 1 (.slice A3 l.length c3); replace hx := setHiB (setHiB hx hpz 0 (.int .u64 (z : Int))) hpz 1 (.slice A3 l.length c3)
            try simp only [Act.put, List.setIfInBounds_toArray, List.set_cons_zero, List.set_cons_succ]
            refine bx_take (i := 9) (oi := ?oia9x20) (v := ?va9x20) ?hia9x20 (by kernel_rfl) (by kernel_rfl) (by kernel_rfl) hQ ?hwa9x20 ?hya9x20 ?resta9x20
            case hia9x20 => simp only [List.getElem?_toArray, List.getElem?_cons_zero, List.getElem?_cons_succ]; rfl
            case hwa9x20 => rfl
            case hya9x20 => intro W hW; go_simp; with_reducible rfl
            simp only [Act.put, List.setIfInBounds_toArray, List.set_cons_zero, List.set_cons_succ]
            refine wpAnyH_done (by kernel_rfl) ?_ _
            simp only [NoP]
            go_wp2_with fail
            go_meet
            case rel => exact ⟨_, _, _, _, _, rfl, rfl, hp, own_rd o3, T2.rd, hx⟩
        · go_simp
          have hz := hx.size; have b1 := Ext.al x (.cells #[.int .u64 0, .slice none 0 0] 25); have hp := Blk.new x 25 #[.int .u64 0, .slice none 0 0]; have hpz : w1.heap.size ≤ x.heap.size := hz; (try (have T2 := o2.toNew (.cells #[.int .u64 0, .slice none 0 0] 25))); (try replace S1 := S1.mv b1); (try replace T1 := T1.mv b1); (try replace o3 := own_call o3 b1); replace hx := hx.trans (Below.mono b1 hz); refine hK _ _ (BelowX.of (Below.mono b1 hz) _) ?_; clear b1; (try clear o2); generalize x.heap.size = p at *; generalize x.alloc (.cells #[.int .u64 0, .slice none 0 0] 25) = x at *
          try simp only [Act.put, List.setIfInBounds_toArray, List.set_cons_zero, List.set_cons_succ]
          refine bx_two (i := 4) (j := 6) (oi := ?oia4x21) (oj := ?oja4x21) (by kernel_rfl) ?hia4x21 ?hja4x21 ?hwa4x21 ?hva4x21 (fun K hK => ?_) (fun K hK => ?_)
          case hia4x21 => simp only [List.getElem?_toArray, List.getElem?_cons_zero, List.getElem?_cons_succ]; rfl
          case hja4x21 => simp only [List.getElem?_toArray, List.getElem?_cons_zero, List.getElem?_cons_succ]; rfl
          case hwa4x21 => rfl
          case hva4x21 => rfl
          · go_simp
            have k0 := reads_cell T1 (by omega) 0 (v := .int .u64 (z : Int)) rfl; have k1 := reads_cell T1 (by omega) 1 (v := .slice A3 l.length c3) rfl; go_simp; refine hK _ _ (BelowX.refl _ _ _) ?_; clear k0 k1
            try simp only [Act.put, List.setIfInBounds_toArray, List.set_cons_zero, List.set_cons_succ]
            refine bx_step (i := 6) (oi := ?oia6x22) (by kernel_rfl) ?hia6x22 ?hwa6x22 (fun K hK => ?_)
            case hia6x22 => simp only [List.getElem?_toArray, List.getElem?_cons_zero, List.getElem?_cons_succ]; rfl
            case hwa6x22 => rfl
            go_simp
            have hz := hx.size; refine (twin26_any A2 n2 c2 L x (RL.mv hx) (by omega) hbd).mono ?_; rintro e x ⟨A6, c6, rfl, o2, b1⟩; (try replace S1 := S1.mv b1); (try replace T1 := T1.mv b1); (try replace o3 := own_call o3 b1); (try (have T2 := o2.toLt hp.lt; replace hp := hp.below b1 hp.lt)); replace hx := hx.trans (b1.mono hz); refine hK _ _ (BelowX.of (b1.mono hz) _) ?_; clear b1
            try simp only [Act.put, List.setIfInBounds_toArray, List.set_cons_zero, List.set_cons_succ]
            refine bx_step (i := 8) (oi := ?oia8x23) (by kernel_rfl) ?hia8x23 ?hwa8x23 (fun K hK => ?_)
            case hia8x23 => simp only [List.getElem?_toArray, List.getElem?_cons_zero, List.getElem?_cons_succ]; rfl
            case hwa8x23 => rfl
            have s0 := (hp.cell 0).trans (show _ = some (.int .u64 0) from rfl); have s1 := (hp.cell 1).trans (show _ = some (.slice none 0 0) from rfl); have f0 := hp.frozen 0; have f1 := hp.frozen 1; go_simp; clear s0 s1 f0 f1; refine hK _ _ (((BelowX.refl _ _ _).setHi hpz 0 _).setHi hpz 1 _) ?_; replace T2 := (T2.set_ 0 (.int .u64 (z : Int))).set_ 1 (.slice A3 l.length c3); replace o3 := own_setNe o3 hp (by decide : (5 : Nat) ≠ 25) 0 (.int .u64 (z : Int)); replace o3 := own_setNe o3 (hp.set_ 0 (.int .u64 (z : Int))) (by decide : (5 : Nat) ≠ 25) 1 (.slice A3 l.length c3); replace hp := (hp.set_ 0 (.int .u64 (z : Int))).set_ 1 (.slice A3 l.length c3); replace hx := setHiB (setHiB hx hpz 0 (.int .u64 (z : Int))) hpz 1 (.slice A3 l.length c3)
            try simp only [Act.put, List.setIfInBounds_toArray, List.set_cons_zero, List.set_cons_succ]
            refine bx_take (i := 9) (oi := ?oia9x24) (v := ?va9x24) ?hia9x24 (by kernel_rfl) (by kernel_rfl) (by kernel_rfl) hQ ?hwa9x24 ?hya9x24 ?resta9x24
            case hia9x24 => simp only [List.getElem?_toArray, List.getElem?_cons_zero, List.getElem?_cons_succ]; rfl
            case hwa9x24 => rfl
            case hya9x24 => intro W hW; go_simp; with_reducible rfl
            simp only [Act.put, List.setIfInBounds_toArray, List.set_cons_zero, List.set_cons_succ]
            refine wpAnyH_done (by kernel_rfl) ?_ _
            simp only [NoP]
            go_wp2_with fail
            go_meet
            case rel => exact ⟨_, _, _, _, _, rfl, rfl, hp, own_rd o3, T2.rd, hx⟩
          · go_simp
            have hz := hx.size; refine (twin26_any A2 n2 c2 L x (RL.mv hx) (by omega) hbd).mono ?_; rintro e x ⟨A6, c6, rfl, o2, b1⟩; (try replace S1 := S1.mv b1); (try replace T1 := T1.mv b1); (try replace o3 := own_call o3 b1); (try (have T2 := o2.toLt hp.lt; replace hp := hp.below b1 hp.lt)); replace hx := hx.trans (b1.mono hz); refine hK _ _ (BelowX.of (b1.mono hz) _) ?_; clear b1
            try simp only [Act.put, List.setIfInBounds_toArray, List.set_cons_zero, List.set_cons_succ]
            refine bx_step (i := 4) (oi := ?oia4x25) (by kernel_rfl) ?hia4x25 ?hwa4x25 (fun K hK => ?_)
            case hia4x25 => simp only [List.getElem?_toArray, List.getElem?_cons_zero, List.getElem?_cons_succ]; rfl
            case hwa4x25 => rfl
            go_simp
            have k0 := reads_cell T1 (by omega) 0 (v := .int .u64 (z : Int)) rfl; have k1 := reads_cell T1 (by omega) 1 (v := .slice A3 l.length c3) rfl; go_simp; refine hK _ _ (BelowX.refl _ _ _) ?_; clear k0 k1
            try simp only [Act.put, List.setIfInBounds_toArray, List.set_cons_zero, List.set_cons_succ]
            refine bx_step (i := 8) (oi := ?oia8x26) (by kernel_rfl) ?hia8x26 ?hwa8x26 (fun K hK => ?_)
            case hia8x26 => simp only [List.getElem?_toArray, List.getElem?_cons_zero, List.getElem?_cons_succ]; rfl
            case hwa8x26 => rfl
            have s0 := (hp.cell 0).trans (show _ = some (.int .u64 0) from rfl); have s1 := (hp.cell 1).trans (show _ = some (.slice none 0 0) from rfl); have f0 := hp.frozen 0; have f1 := hp.frozen 1; go_simp; clear s0 s1 f0 f1; refine hK _ _ (((BelowX.refl _ _ _).setHi hpz 0 _).setHi hpz 1 _) ?_; replace T2 := (T2.set_ 0 (.int .u64 (z : Int))).set_ 1 (.slice A3 l.length c3); replace o3 := own_setNe o3 hp (by decide : (5 : Nat) ≠ 25) 0 (.int .u64 (z : Int)); replace o3 := own_setNe o3 (hp.set_ 0 (.int .u64 (z : Int))) (by decide : (5 : Nat) ≠ 25) 1 (.slice A3 l.length c3); replace hp := (hp.set_ 0 (.int .u64 (z : Int))).set_ 1 (.slice A3 l.length c3); replace hx := setHiB (setHiB hx hpz 0 (.int .u64 (z : Int))) hpz 1 (.slice A3 l.length c3)
            try simp only [Act.put, List.setIfInBounds_toArray, List.set_cons_zero, List.set_cons_succ]
            refine bx_take (i := 9) (oi := ?oia9x27) (v := ?va9x27) ?hia9x27 (by kernel_rfl) (by kernel_rfl) (by kernel_rfl) hQ ?hwa9x27 ?hya9x27 ?resta9x27
            case hia9x27 => simp only [List.getElem?_toArray, List.getElem?_cons_zero, List.getElem?_cons_succ]; rfl
            case hwa9x27 => rfl
            case hya9x27 => intro W hW; go_simp; with_reducible rfl
            simp only [Act.put, List.setIfInBounds_toArray, List.set_cons_zero, List.set_cons_succ]
            refine wpAnyH_done (by kernel_rfl) ?_ _
            simp only [NoP]
            go_wp2_with fail
            go_meet
            case rel => exact ⟨_, _, _, _, _, rfl, rfl, hp, own_rd o3, T2.rd, hx⟩
      · go_simp
        have hz := hx.size; have b1 := Ext.al x (.cells #[.int .u64 0, .slice none 0 0] 25); have hp := Blk.new x 25 #[.int .u64 0, .slice none 0 0]; have hpz : w1.heap.size ≤ x.heap.size := hz; (try (have T2 := o2.toNew (.cells #[.int .u64 0, .slice none 0 0] 25))); (try replace S1 := S1.mv b1); (try replace T1 := T1.mv b1); (try replace o3 := own_call o3 b1); replace hx := hx.trans (Below.mono b1 hz); refine hK _ _ (BelowX.of (Below.mono b1 hz) _) ?_; clear b1; (try clear o2); generalize x.heap.size = p at *; generalize x.alloc (.cells #[.int .u64 0, .slice none 0 0] 25) = x at *
        try simp only [Act.put, List.setIfInBounds_toArray, List.set_cons_zero, List.set_cons_succ]
        refine bx_step (i := 2) (oi := ?oia2x28) (by kernel_rfl) ?hia2x28 ?hwa2x28 (fun K hK => ?_)
        case hia2x28 => simp only [List.getElem?_toArray, List.getElem?_cons_zero, List.getElem?_cons_succ]; rfl
        case hwa2x28 => rfl
        go_simp
        have hz := hx.size; refine (twin26_any _ 1 1 [(z, l)] x S1 (by omega) (by simp; omega)).mono ?_; rintro e x ⟨A1, c1, rfl, o1, b1⟩; clear S1; (try replace S1 := S1.mv b1); (try replace T1 := T1.mv b1); (try replace o3 := own_call o3 b1); (try replace o2 := o2.call b1); (try replace T2 := T2.call b1); (try replace hp := hp.below b1 hp.lt); replace hx := hx.trans (b1.mono hz); obtain ⟨g1, A3, c3, rfl, T1, o3⟩ := o1.one; refine hK _ _ (BelowX.of (b1.mono hz) _) ?_; clear o1 b1
        try simp only [Act.put, List.setIfInBounds_toArray, List.set_cons_zero, List.set_cons_succ]
        refine bx_take (i := 3) (oi := ?oia3x29) (v := ?va3x29) ?hia3x29 (by kernel_rfl) (by kernel_rfl) (by kernel_rfl) hQ ?hwa3x29 ?hya3x29 ?resta3x29
        case hia3x29 => simp only [List.getElem?_toArray, List.getElem?_cons_zero, List.getElem?_cons_succ]; rfl
        case hwa3x29 => rfl
        case hya3x29 => intro W hW; go_simp; with_reducible rfl
        simp only [Act.put, List.setIfInBounds_toArray, List.set_cons_zero, List.set_cons_succ]
        refine bx_two (i := 4) (j := 6) (oi := ?oia4x30) (oj := ?oja4x30) (by kernel_rfl) ?hia4x30 ?hja4x30 ?hwa4x30 ?hva4x30 (fun K hK => ?_) (fun K hK => ?_)
        case hia4x30 => simp only [List.getElem?_toArray, List.getElem?_cons_zero, List.getElem?_cons_succ]; rfl
        case hja4x30 => simp only [List.getElem?_toArray, List.getElem?_cons_zero, List.getElem?_cons_succ]; rfl
        case hwa4x30 => rfl
        case hva4x30 => rfl
        · go_simp
          have k0 := reads_cell T1 (by omega) 0 (v := .int .u64 (z : Int)) rfl; have k1 := reads_cell T1 (by omega) 1 (v := .slice A3 l.length c3) rfl; go_simp; refine hK _ _ (BelowX.refl _ _ _) ?_; clear k0 k1
          try simp only [Act.put, List.setIfInBounds_toArray, List.set_cons_zero, List.set_cons_succ]
          refine bx_step (i := 6) (oi := ?oia6x31) (by kernel_rfl) ?hia6x31 ?hwa6x31 (fun K hK => ?_)
          case hia6x31 => simp only [List.getElem?_toArray, List.getElem?_cons_zero, List.getElem?_cons_succ]; rfl
          case hwa6x31 => rfl
          go_simp
          have hz := hx.size; refine (twin26_any A2 n2 c2 L x (RL.mv hx) (by omega) hbd).mono ?_; rintro e x ⟨A6, c6, rfl, o2, b1⟩; (try replace S1 := S1.mv b1); (try replace T1 := T1.mv b1); (try replace o3 := own_call o3 b1); (try (have T2 := o2.toLt hp.lt; replace hp := hp.below b1 hp.lt)); replace hx := hx.trans (b1.mono hz); refine hK _ _ (BelowX.of (b1.mono hz) _) ?_; clear b1
          try simp only [Act.put, List.setIfInBounds_toArray, List.set_cons_zero, List.set_cons_succ]
          refine bx_step (i := 8) (oi := ?oia8x32) (by kernel_rfl) ?hia8x32 ?hwa8x32 (fun K hK => ?_)
          case hia8x32 => simp only [List.getElem?_toArray, List.getElem?_cons_zero, List.getElem?_cons_succ]; rfl
          case hwa8x32 => rfl
          have s0 := (hp.cell 0).trans (show _ = some (.int .u64 0) from rfl); have s1 := (hp.cell 1).trans (show _ = some (.slice none 0 0) from rfl); have f0 := hp.frozen 0; have f1 := hp.frozen 1; go_simp; clear s0 s1 f0 f1; refine hK _ _ (((BelowX.refl _ _ _).setHi hpz 0 _).setHi hpz 1 _) ?_; replace T2 := (T2.set_ 0 (.int .u64 (z : Int))).set_ 1 (.slice A3 l.length c3); replace o3 := own_setNe o3 hp (by decide : (5 : Nat) ≠ 25) 0 (.int .u64 (z : Int)); replace o3 := own_setNe o3 (hp.set_ 0 (.int .u64 (z : Int))) (by decide : (5 : Nat) ≠ 25) 1 (.slice A3 l.length c3); replace hp := (hp.set_ 0 (.int .u64 (z : Int))).set_ 1 (.slice A3 l.length c3); replace hx := setHiB (setHiB hx hpz 0 (.int .u64 (z : Int))) hpz 1 (.slice A3 l.length c3)
          try simp only [Act.put, List.setIfInBounds_toArray, List.set_cons_zero, List.set_cons_succ]
          refine bx_take (i := 9) (oi := ?oia9x33) (v := ?va9x33) ?hia9x33 (by kernel_rfl) (by kernel_rfl) (by kernel_rfl) hQ ?hwa9x33 ?hya9x33 ?resta9x33
          case hia9x33 => simp only [List.getElem?_toArray, List.getElem?_cons_zero, List.getElem?_cons_succ]; rfl
          case hwa9x33 => rfl
          case hya9x33 => intro W hW; go_simp; with_reducible rfl
          simp only [Act.put, List.setIfInBounds_toArray, List.set_cons_zero, List.set_cons_succ]
          refine wpAnyH_done (by kernel_rfl) ?_ _
          simp only [NoP]
          go_wp2_with fail
          go_meet
          case rel => exact ⟨_, _, _, _, _, rfl, rfl, hp, own_rd o3, T2.rd, hx⟩
        · go_simp
          have hz := hx.size; refine (twin26_any A2 n2 c2 L x (RL.mv hx) (by omega) hbd).mono ?_; rintro e x ⟨A6, c6, rfl, o2, b1⟩; (try replace S1 := S1.mv b1); (try replace T1 := T1.mv b1); (try replace o3 := own_call o3 b1); (try (have T2 := o2.toLt hp.lt; replace hp := hp.below b1 hp.lt)); replace hx := hx.trans (b1.mono hz); refine hK _ _ (BelowX.of (b1.mono hz) _) ?_; clear b1
          try simp only [Act.put, List.setIfInBounds_toArray, List.set_cons_zero, List.set_cons_succ]
          refine bx_step (i := 4) (oi := ?oia4x34) (by kernel_rfl) ?hia4x34 ?hwa4x34 (fun K hK => ?_)
          case hia4x34 => simp only [List.getElem?_toArray, List.getElem?_cons_zero, List.getElem?_cons_succ]; rfl
          case hwa4x34 => rfl
          go_simp
          have k0 := reads_cell T1 (by omega) 0 (v := .int .u64 (z : Int)) rfl; have k1 := reads_cell T1 (by omega) 1 (v := .slice A3 l.length c3) rfl; go_simp; refine hK _ _ (BelowX.refl _ _ _) ?_; clear k0 k1
          try simp only [Act.put, List.setIfInBounds_toArray, List.set_cons_zero, List.set_cons_succ]
          refine bx_step (i := 8) (oi := ?oia8x35) (by kernel_rfl) ?hia8x35 ?hwa8x35 (fun K hK => ?_)
          case hia8x35 => simp only [List.getElem?_toArray, List.getElem?_cons_zero, List.getElem?_cons_succ]; rfl
          case hwa8x35 => rfl
          have s0 := (hp.cell 0).trans (show _ = some (.int .u64 0) from rfl); have s1 := (hp.cell 1).trans (show _ = some (.slice none 0 0) from rfl); have f0 := hp.frozen 0; have f1 := hp.frozen 1; go_simp; clear s0 s1 f0 f1; refine hK _ _ (((BelowX.refl _ _ _).setHi hpz 0 _).setHi hpz 1 _) ?_; replace T2 := (T2.set_ 0 (.int .u64 (z : Int))).set_ 1 (.slice A3 l.length c3); replace o3 := own_setNe o3 hp (by decide : (5 : Nat) ≠ 25) 0 (.int .u64 (z : Int)); replace o3 := own_setNe o3 (hp.set_ 0 (.int .u64 (z : Int))) (by decide : (5 : Nat) ≠ 25) 1 (.slice A3 l.length c3); replace hp := (hp.set_ 0 (.int .u64 (z : Int))).set_ 1 (.slice A3 l.length c3); replace hx := setHiB (setHiB hx hpz 0 (.int .u64 (z : Int))) hpz 1 (.slice A3 l.length c3)
          try simp only [Act.put, List.setIfInBounds_toArray, List.set_cons_zero, List.set_cons_succ]
          refine bx_take (i := 9) (oi := ?oia9x36) (v := ?va9x36) ?hia9x36 (by kernel_rfl) (by kernel_rfl) (by kernel_rfl) hQ ?hwa9x36 ?hya9x36 ?resta9x36
          case hia9x36 => simp only [List.getElem?_toArray, List.getElem?_cons_zero, List.getElem?_cons_succ]; rfl
          case hwa9x36 => rfl
          case hya9x36 => intro W hW; go_simp; with_reducible rfl
          simp only [Act.put, List.setIfInBounds_toArray, List.set_cons_zero, List.set_cons_succ]
          refine wpAnyH_done (by kernel_rfl) ?_ _
          simp only [NoP]
          go_wp2_with fail
          go_meet
          case rel => exact ⟨_, _, _, _, _, rfl, rfl, hp, own_rd o3, T2.rd, hx⟩
    · go_simp
      have hz := hx.size; have b1 := Ext.al x (.cells #[.int .u64 0, .slice none 0 0] 25); have hp := Blk.new x 25 #[.int .u64 0, .slice none 0 0]; have hpz : w1.heap.size ≤ x.heap.size := hz; (try (have T2 := o2.toNew (.cells #[.int .u64 0, .slice none 0 0] 25))); (try replace S1 := S1.mv b1); (try replace T1 := T1.mv b1); (try replace o3 := own_call o3 b1); replace hx := hx.trans (Below.mono b1 hz); refine hK _ _ (BelowX.of (Below.mono b1 hz) _) ?_; clear b1; (try clear o2); generalize x.heap.size = p at *; generalize x.alloc (.cells #[.int .u64 0, .slice none 0 0] 25) = x at *
      try simp only [Act.put, List.setIfInBounds_toArray, List.set_cons_zero, List.set_cons_succ]
      refine bx_step (i := 1) (oi := ?oia1x37) (by kernel_rfl) ?hia1x37 ?hwa1x37 (fun K hK => ?_)
      case hia1x37 => simp only [List.getElem?_toArray, List.getElem?_cons_zero, List.getElem?_cons_succ]; rfl
      case hwa1x37 => rfl
      go_simp
      have hz := hx.size; have b1 := Ext.al x (.cells #[.int .u64 (z : Int), .slice A l.length c] 25); have S1 := rdR_one (Reads.mv R hx) hc hb; (try replace S1 := S1.mv b1); (try replace T1 := T1.mv b1); (try replace o3 := own_call o3 b1); (try replace o2 := o2.call b1); (try replace T2 := T2.call b1); (try replace hp := hp.below b1 hp.lt); replace hx := hx.trans (Below.mono b1 hz); refine hK _ _ (BelowX.of (Below.mono b1 hz) _) ?_; clear b1; generalize x.heap.size = g1 at *; generalize x.alloc (.cells #[.int .u64 (z : Int), .slice A l.length c] 25) = x at *
      try simp only [Act.put, List.setIfInBounds_toArray, List.set_cons_zero, List.set_cons_succ]
      refine bx_step (i := 2) (oi := ?oia2x38) (by kernel_rfl) ?hia2x38 ?hwa2x38 (fun K hK => ?_)
      case hia2x38 => simp only [List.getElem?_toArray, List.getElem?_cons_zero, List.getElem?_cons_succ]; rfl
      case hwa2x38 => rfl
      go_simp
      have hz := hx.size; refine (twin26_any _ 1 1 [(z, l)] x S1 (by omega) (by simp; omega)).mono ?_; rintro e x ⟨A1, c1, rfl, o1, b1⟩; clear S1; (try replace S1 := S1.mv b1); (try replace T1 := T1.mv b1); (try replace o3 := own_call o3 b1); (try replace o2 := o2.call b1); (try replace T2 := T2.call b1); (try replace hp := hp.below b1 hp.lt); replace hx := hx.trans (b1.mono hz); obtain ⟨g1, A3, c3, rfl, T1, o3⟩ := o1.one; refine hK _ _ (BelowX.of (b1.mono hz) _) ?_; clear o1 b1
      try simp only [Act.put, List.setIfInBounds_toArray, List.set_cons_zero, List.set_cons_succ]
      refine bx_take (i := 3) (oi := ?oia3x39) (v := ?va3x39) ?hia3x39 (by kernel_rfl) (by kernel_rfl) (by kernel_rfl) hQ ?hwa3x39 ?hya3x39 ?resta3x39
      case hia3x39 => simp only [List.getElem?_toArray, List.getElem?_cons_zero, List.getElem?_cons_succ]; rfl
      case hwa3x39 => rfl
      case hya3x39 => intro W hW; go_simp; with_reducible rfl
      simp only [Act.put, List.setIfInBounds_toArray, List.set_cons_zero, List.set_cons_succ]
      refine bx_two (i := 4) (j := 6) (oi := ?oia4x40) (oj := ?oja4x40) (by kernel_rfl) ?hia4x40 ?hja4x40 ?hwa4x40 ?hva4x40 (fun K hK => ?_) (fun K hK => ?_)
      case hia4x40 => simp only [List.getElem?_toArray, List.getElem?_cons_zero, List.getElem?_cons_succ]; rfl
      case hja4x40 => simp only [List.getElem?_toArray, List.getElem?_cons_zero, List.getElem?_cons_succ]; rfl
      case hwa4x40 => rfl
      case hva4x40 => rfl
      · go_simp
        have k0 := reads_cell T1 (by omega) 0 (v := .int .u64 (z : Int)) rfl; have k1 := reads_cell T1 (by omega) 1 (v := .slice A3 l.length c3) rfl; go_simp; refine hK _ _ (BelowX.refl _ _ _) ?_; clear k0 k1
        try simp only [Act.put, List.setIfInBounds_toArray, List.set_cons_zero, List.set_cons_succ]
        refine bx_step (i := 6) (oi := ?oia6x41) (by kernel_rfl) ?hia6x41 ?hwa6x41 (fun K hK => ?_)
        case hia6x41 => simp only [List.getElem?_toArray, List.getElem?_cons_zero, List.getElem?_cons_succ]; rfl
        case hwa6x41 => rfl
        go_simp
        have hz := hx.size; refine (twin26_any A2 n2 c2 L x (RL.mv hx) (by omega) hbd).mono ?_; rintro e x ⟨A6, c6, rfl, o2, b1⟩; (try replace S1 := S1.mv b1); (try replace T1 := T1.mv b1); (try replace o3 := own_call o3 b1); (try (have T2 := o2.toLt hp.lt; replace hp := hp.below b1 hp.lt)); replace hx := hx.trans (b1.mono hz); refine hK _ _ (BelowX.of (b1.mono hz) _) ?_; clear b1
        try simp only [Act.put, List.setIfInBounds_toArray, List.set_cons_zero, List.set_cons_succ]
        refine bx_step (i := 8) (oi := ?oia8x42) (by kernel_rfl) ?hia8x42 ?hwa8x42 (fun K hK => ?_)
        case hia8x42 => simp only [List.getElem?_toArray, List.getElem?_cons_zero, List.getElem?_cons_succ]; rfl
        case hwa8x42 => rfl
        have s0 := (hp.cell 0).trans (show _ = some (.int .u64 0) from rfl); have s1 := (hp.cell 1).trans (show _ = some (.slice none 0 0) from rfl); have f0 := hp.frozen 0; have f1 := hp.frozen 1; go_simp; clear s0 s1 f0 f1; refine hK _ _ (((BelowX.refl _ _ _).setHi hpz 0 _).setHi hpz 1 _) ?_; replace T2 := (T2.set_ 0 (.int .u64 (z : Int))).set_ 1 (.slice A3 l.length c3); replace o3 := own_setNe o3 hp (by decide : (5 : Nat) ≠ 25) 0 (.int .u64 (z : Int)); replace o3 := own_setNe o3 (hp.set_ 0 (.int .u64 (z : Int))) (by decide : (5 : Nat) ≠ 25) 1 (.slice A3 l.length c3); replace hp := (hp.set_ 0 (.int .u64 (z : Int))).set_ 1 (.slice A3 l.length c3); replace hx := setHiB (setHiB hx hpz 0 (.int .u64 (z : Int))) hpz 1 (.slice A3 l.length c3)
        try simp only [Act.put, List.setIfInBounds_toArray, List.set_cons_zero, List.set_cons_succ]
        refine bx_take (i := 9) (oi := ?oia9x43) (v := ?va9x43) ?hia9x43 (by kernel_rfl) (by kernel_rfl) (by kernel_rfl) hQ ?hwa9x43 ?hya9x43 ?resta9x43
        case hia9x43 => simp only [List.getElem?_toArray, List.getElem?_cons_zero, List.getElem?_cons_succ]; rfl
        case hwa9x43 => rfl
        case hya9x43 => intro W hW; go_simp; with_reducible rfl
        simp only [Act.put, List.setIfInBounds_toArray, List.set_cons_zero, List.set_cons_succ]
        refine wpAnyH_done (by kernel_rfl) ?_ _
        simp only [NoP]
        go_wp2_with fail
        go_meet
        case rel => exact ⟨_, _, _, _, _, rfl, rfl, hp, own_rd o3, T2.rd, hx⟩
      · go_simp
        have hz := hx.size; refine (twin26_any A2 n2 c2 L x (RL.mv hx) (by omega) hbd).mono ?_; rintro e x ⟨A6, c6, rfl, o2, b1⟩; (try replace S1 := S1.mv b1); (try replace T1 := T1.mv b1); (try replace o3 := own_call o3 b1); (try (have T2 := o2.toLt hp.lt; replace hp := hp.below b1 hp.lt)); replace hx := hx.trans (b1.mono hz); refine hK _ _ (BelowX.of (b1.mono hz) _) ?_; clear b1
        try simp only [Act.put, List.setIfInBounds_toArray, List.set_cons_zero, List.set_cons_succ]
        refine bx_step (i := 4) (oi := ?oia4x44) (by kernel_rfl) ?hia4x44 ?hwa4x44 (fun K hK => ?_)
        case hia4x44 => simp only [List.getElem?_toArray, List.getElem?_cons_zero, List.getElem?_cons_succ]; rfl
        case hwa4x44 => rfl
        go_simp
        have k0 := reads_cell T1 (by omega) 0 (v := .int .u64 (z : Int)) rfl; have k1 := reads_cell T1 (by omega) 1 (v := .slice A3 l.length c3) rfl; go_simp; refine hK _ _ (BelowX.refl _ _ _) ?_; clear k0 k1
        try simp only [Act.put, List.setIfInBounds_toArray, List.set_cons_zero, List.set_cons_succ]
        refine bx_step (i := 8) (oi := ?oia8x45) (by kernel_rfl) ?hia8x45 ?hwa8x45 (fun K hK => ?_)
        case hia8x45 => simp only [List.getElem?_toArray, List.getElem?_cons_zero, List.getElem?_cons_succ]; rfl
        case hwa8x45 => rfl
        have s0 := (hp.cell 0).trans (show _ = some (.int .u64 0) from rfl); have s1 := (hp.cell 1).trans (show _ = some (.slice none 0 0) from rfl); have f0 := hp.frozen 0; have f1 := hp.frozen 1; go_simp; clear s0 s1 f0 f1; refine hK _ _ (((BelowX.refl _ _ _).setHi hpz 0 _).setHi hpz 1 _) ?_; replace T2 := (T2.set_ 0 (.int .u64 (z : Int))).set_ 1 (.slice A3 l.length c3); replace o3 := own_setNe o3 hp (by decide : (5 : Nat) ≠ 25) 0 (.int .u64 (z : Int)); replace o3 := own_setNe o3 (hp.set_ 0 (.int .u64 (z : Int))) (by decide : (5 : Nat) ≠ 25) 1 (.slice A3 l.length c3); replace hp := (hp.set_ 0 (.int .u64 (z : Int))).set_ 1 (.slice A3 l.length c3); replace hx := setHiB (setHiB hx hpz 0 (.int .u64 (z : Int))) hpz 1 (.slice A3 l.length c3)
        try simp only [Act.put, List.setIfInBounds_toArray, List.set_cons_zero, List.set_cons_succ]
        refine bx_take (i := 9) (oi := ?oia9x46) (v := ?va9x46) ?hia9x46 (by kernel_rfl) (by kernel_rfl) (by kernel_rfl) hQ ?hwa9x46 ?hya9x46 ?resta9x46
        case hia9x46 => simp only [List.getElem?_toArray, List.getElem?_cons_zero, List.getElem?_cons_succ]; rfl
        case hwa9x46 => rfl
        case hya9x46 => intro W hW; go_simp; with_reducible rfl
        simp only [Act.put, List.setIfInBounds_toArray, List.set_cons_zero, List.set_cons_succ]
        refine wpAnyH_done (by kernel_rfl) ?_ _
        simp only [NoP]
        go_wp2_with fail
        go_meet
        case rel => exact ⟨_, _, _, _, _, rfl, rfl, hp, own_rd o3, T2.rd, hx⟩
  case rest =>
    obtain ⟨p, A3, c3, A6, c6, rfl, rfl, hp, R3, T2, bc⟩ := hcut
    replace R := R.mv bc
    replace RL := RL.mv bc
    replace hk := hk.below bc hk.lt
    replace hB := hB.trans (bc.mono hB.size)
    clear bc
    have z3 : wc.cell? ⟨w.heap.size, 0, none⟩ = some (.int .u64 (z : Int)) := (hk.cell 0).trans rfl
    have z4 : wc.cell? ⟨w.heap.size, 1, none⟩ = some (.slice A l.length c) := (hk.cell 1).trans rfl
    go_wp2_with fail
    clear z3 z4
    refine (writeHeap_any z A l.length c l _ R).mono ?_
    rintro e w2 ⟨A7, c7, rfl, o7, b⟩
    have R7 := own_rd o7
    clear o7
    replace R := R.mv b
    replace RL := RL.mv b
    replace R3 := R3.mv b
    replace T2 := T2.mv b
    replace hk := hk.below b hk.lt
    replace hp := hp.below b hp.lt
    replace hB := hB.trans (b.mono hB.size)
    clear b
    have z5 : w2.cell? ⟨p, 0, none⟩ = some (.int .u64 (z : Int)) := (hp.cell 0).trans rfl
    have z6 : w2.cell? ⟨p, 1, none⟩ = some (.slice A3 l.length c3) := (hp.cell 1).trans rfl
    go_wp2_with fail
    clear z5 z6
    refine (rewriteHeap_any z A3 l.length c3 l _ R3).mono ?_
    rintro e w3 ⟨A8, c8, rfl, o8, b⟩
    have R8 := own_rd o8
    clear o8
    replace R := R.mv b
    replace RL := RL.mv b
    replace R3 := R3.mv b
    replace T2 := T2.mv b
    replace R7 := R7.mv b
    replace hk := hk.below b hk.lt
    replace hp := hp.below b hp.lt
    replace hB := hB.trans (b.mono hB.size)
    clear b
    go_wp2_with fail
    refine (writeStacks_any A2 n2 c2 L _ RL (by omega)).mono ?_
    rintro e w4 ⟨A9, c9, rfl, o9, b⟩
    have R9 := own_rd o9
    clear o9
    replace R := R.mv b
    replace RL := RL.mv b
    replace R3 := R3.mv b
    replace T2 := T2.mv b
    replace R7 := R7.mv b
    replace R8 := R8.mv b
    replace hk := hk.below b hk.lt
    replace hp := hp.below b hp.lt
    replace hB := hB.trans (b.mono hB.size)
    clear b
    go_wp2_with fail
    refine (rewriteStacks_any A6 n2 c6 L _ T2).mono ?_
    rintro e w5 ⟨B1, d1, rfl, o1, b⟩
    have R1 := own_rd o1
    clear o1
    replace R := R.mv b
    replace RL := RL.mv b
    replace R3 := R3.mv b
    replace T2 := T2.mv b
    replace R7 := R7.mv b
    replace R8 := R8.mv b
    replace R9 := R9.mv b
    replace hk := hk.below b hk.lt
    replace hp := hp.below b hp.lt
    replace hB := hB.trans (b.mono hB.size)
    clear b
    have K7 := cvS c7 R7
    have K8 := cvS c8 R8
    have K9 := cvS c9 R9
    have K1 := cvS d1 R1
    have z7 : w5.cell? ⟨w.heap.size, 0, none⟩ = some (.int .u64 (z : Int)) := (hk.cell 0).trans rfl
    have z8 : w5.cell? ⟨w.heap.size, 1, none⟩ = some (.slice A l.length c) := (hk.cell 1).trans rfl
    have z9 : w5.cell? ⟨p, 0, none⟩ = some (.int .u64 (z : Int)) := (hp.cell 0).trans rfl
    have z10 : w5.cell? ⟨p, 1, none⟩ = some (.slice A3 l.length c3) := (hp.cell 1).trans rfl
    go_wp2_with fail
    clear K7 K8 K9 K1
    clear z7 z8 z9 z10
    refine (sameRegion_any z A l.length c l z A3 l.length c3 l _ R R3).mono ?_
    rintro e w6 ⟨rfl, b⟩
    rw [show smR (z, l) (z, l) = true from smR_iff.2 rfl]
    replace R := R.mv b
    replace RL := RL.mv b
    replace R3 := R3.mv b
    replace T2 := T2.mv b
    replace R7 := R7.mv b
    replace R8 := R8.mv b
    replace R9 := R9.mv b
    replace R1 := R1.mv b
    replace hk := hk.below b hk.lt
    replace hp := hp.below b hp.lt
    replace hB := hB.trans (b.mono hB.size)
    clear b
    go_wp2_with fail
    refine (sameRegions_any A2 n2 c2 L A6 n2 c6 L _ RL T2 (by omega)).mono ?_
    rintro e w7 ⟨rfl, b⟩
    rw [decide_eq_true (rfl : L = L)]
    replace R := R.mv b
    replace RL := RL.mv b
    replace R3 := R3.mv b
    replace T2 := T2.mv b
    replace R7 := R7.mv b
    replace R8 := R8.mv b
    replace R9 := R9.mv b
    replace R1 := R1.mv b
    replace hk := hk.below b hk.lt
    replace hp := hp.below b hp.lt
    replace hB := hB.trans (b.mono hB.size)
    clear b
    go_wp2_with fail
    go_ret
    exact ⟨rfl, hB⟩

end Go.Proofs.Ytponceakelimeaa
