/- Contracts and laws of a chapter that its statement of names leans on. Each states its conditions. -/
import Derived.Test.YtldaijkcmnnjpaaScr2
namespace Go.Proofs.Ytldaijkcmnnjpaa
open Go.RowKit Wire
set_option linter.unusedVariables false
theorem slI : IsSl Try.prog 42 3 (.int .i64 0) 1 8 := ⟨Try.underlying42, by kernel_rfl, rfl, by omega, by omega⟩
/-- What Encode answers. -/
def fullL (st sk hp rt : Int) (l : List Int) : List Int := [st, sk, hp, rt, (l.length : Int)] ++ l
def enL (st sk hp rt : Int) (l : List Int) : List UInt8 := if scB st sk hp rt l then cod (fullL st sk hp rt l) else []
theorem sc_parts {st sk hp rt : Int} {l : List Int} (h : scB st sk hp rt l = true) : (1 ≤ st ∧ st ≤ 5000) ∧ (0 ≤ sk ∧ sk ≤ 4096) ∧ (0 ≤ hp ∧ hp ≤ 16384) ∧ (1 ≤ rt ∧ rt ≤ 16) ∧ l.length ≤ 2000 ∧ ∀ z ∈ l, 0 ≤ z ∧ z ≤ 65535 := by
  simp only [scB, limB, Bool.and_eq_true, inB_true, decide_eq_true_eq, Bool.not_eq_true'] at h
  obtain ⟨⟨h1, h2, h3, h4⟩, h5, h6⟩ := h
  refine ⟨h1, h2, h3, h4, h5, fun z hz => ?_⟩
  rw [List.any_eq_false] at h6
  have := h6 z hz
  simp [badP, inB_true] at this
  exact this
theorem ok_full {st sk hp rt : Int} {l : List Int} (h : scB st sk hp rt l = true) : okI [st, sk, hp, rt, (l.length : Int)] ∧ okI l := by
  obtain ⟨h1, h2, h3, h4, h5, h6⟩ := sc_parts h
  refine ⟨fun z hz => ?_, fun z hz => by have := h6 z hz; omega⟩
  simp at hz; omega
theorem reads_ints (w : World) (l : List Int) (e : TypeId) : RdI (w.alloc (.cells (l.map vI).toArray e)) (w.alloc (.cells (l.map vI).toArray e)).heap.size (some ⟨w.heap.size, 0, none⟩) l.length l := by
  have h := reads_row w (l.map vI) e
  rw [List.length_map] at h
  exact h.more (by simp)
set_option maxRecDepth 100000 in
set_option maxHeartbeats 3200000 in
theorem encode11_any (A : Option Addr) (n c : Nat) (l : List Int) (st sk hp rt : Int) (w : World) (hr : RdI w w.heap.size A n l) (hn : n ≤ 9223372036854775807) :
    Calls Try.prog 17 #[scr A n c st sk hp rt] w fun e w' => ∃ A' c', e = .returned (.tuple #[.slice A' (enL st sk hp rt l).length c', .int .i64 (scE st sk hp rt l)]) ∧ w'.ownsRow w.heap.size 5 1 (.slice A' (enL st sk hp rt l).length c') (enL st sk hp rt l).length ((enL st sk hp rt l).map b8) ∧ Below w.heap.size w w' := by
  have HL := Lib.hid hr.lenI
  have hB1 := (Below.refl w.heap.size w).alloc (Nat.le_refl _) (.cells #[.slice A n c, .int .i64 st, .int .i64 sk, .int .i64 hp, .int .i64 rt] 44)
  have hk1 := Blk.new w 44 #[.slice A n c, .int .i64 st, .int .i64 sk, .int .i64 hp, .int .i64 rt]
  have HR := Lib.hid (hr.below hB1)
  have HS1 := Lib.hid hB1.size
  clear hr
  cases hs : scB st sk hp rt l
  · have HE := Lib.hid (show scE st sk hp rt l = 8 from by simp [scE, hs])
    have HV := Lib.hid (show enL st sk hp rt l = [] from by simp [enL, hs])
    clear hs
    go_enter Try.func17, Try.ntmps17
    go_wp2_with fail
    refine (check11_any A n c l st sk hp rt _ (HR.out.more hB1.size) hn).mono ?_
    rintro e w1 ⟨rfl, b1⟩
    rw [HE.out]
    go_wp2_with fail
    go_ret2
    exact ⟨none, 0, by rw [HV.out, HE.out]; rfl, by rw [HV.out]; exact World.ownsRow_nil _ _ _ _, hB1.trans (b1.mono hB1.size)⟩
  have HE := Lib.hid (show scE st sk hp rt l = 0 from by simp [scE, hs])
  have HV := Lib.hid (show enL st sk hp rt l = ([] ++ cod [st, sk, hp, rt, (n : Int)]) ++ cod l from by simp only [enL, hs, if_true, fullL, cod_append, List.nil_append]; rw [HL.out])
  have HQ := Lib.hid (show okI [st, sk, hp, rt, (n : Int)] ∧ okI l from by have h := ok_full hs; rw [HL.out] at h; exact h)
  have hn2 : n ≤ 2000 := by have := (sc_parts hs).2.2.2.2.1; rw [HL.out] at this; exact this
  have HLL := Lib.hid (cod_len [st, sk, hp, rt, (n : Int)])
  have HLN := Lib.hid (show (5 : Nat) = [st, sk, hp, rt, (n : Int)].length from rfl)
  clear hs
  go_enter Try.func17, Try.ntmps17
  go_wp2_with fail
  refine (check11_any A n c l st sk hp rt _ (HR.out.more hB1.size) hn).mono ?_
  rintro e w1 ⟨rfl, b1⟩
  rw [HE.out]
  have hB2 := hB1.trans (b1.mono hB1.size)
  have hk2 := hk1.below b1 hk1.lt
  have R2 := HR.out.below (b1.mono hB1.size)
  -- the variable out, and the five numbers
  have b2 := Ext.al w1 (.cells #[.slice none 0 0] 25)
  have hg3 := Blk.new w1 25 #[.slice none 0 0]
  have hk3 := hk2.below b2 hk2.lt
  have hB3 := hB2.trans (Below.mono b2 hB2.size)
  have R3 := R2.below (Below.mono b2 hB2.size)
  have hlt2 := hk2.lt
  have hge : w.heap.size ≤ w1.heap.size := hB2.size
  have z0 : (w1.alloc (.cells #[.slice none 0 0] 25)).cell? ⟨w.heap.size, 0, none⟩ = some (.slice A n c) := (hk3.cell 0).trans rfl
  have z1 : (w1.alloc (.cells #[.slice none 0 0] 25)).cell? ⟨w.heap.size, 1, none⟩ = some (.int .i64 st) := (hk3.cell 1).trans rfl
  have z2 : (w1.alloc (.cells #[.slice none 0 0] 25)).cell? ⟨w.heap.size, 2, none⟩ = some (.int .i64 sk) := (hk3.cell 2).trans rfl
  have z3 : (w1.alloc (.cells #[.slice none 0 0] 25)).cell? ⟨w.heap.size, 3, none⟩ = some (.int .i64 hp) := (hk3.cell 3).trans rfl
  have z4 : (w1.alloc (.cells #[.slice none 0 0] 25)).cell? ⟨w.heap.size, 4, none⟩ = some (.int .i64 rt) := (hk3.cell 4).trans rfl
  clear hk1 hk2 R2 b1
  go_wp2_with fail
  have b3 := Ext.al (w1.alloc (.cells #[.slice none 0 0] 25)) (.cells #[.int .i64 st, .int .i64 sk, .int .i64 hp, .int .i64 rt, .int .i64 (n : Int)] 3)
  have RF := reads_ints (w1.alloc (.cells #[.slice none 0 0] 25)) [st, sk, hp, rt, (n : Int)] 3
  have hgl := hg3.lt
  have hg4 := hg3.below b3 hg3.lt
  have hk4 := hk3.below b3 hk3.lt
  have hB4 := hB3.trans (Below.mono b3 hB3.size)
  have R4 := R3.below (Below.mono b3 hB3.size)
  have hfive := Blk.new (w1.alloc (.cells #[.slice none 0 0] 25)) 3 #[.int .i64 st, .int .i64 sk, .int .i64 hp, .int .i64 rt, .int .i64 (n : Int)]
  have hsz : (w1.alloc (.cells #[.slice none 0 0] 25)).heap.size = w1.heap.size + 1 := alloc_size _ _
  clear z0 z1 z2 z3 z4 hk3 hg3 R3 b2
  rw [hsz] at hfive
  have hf5 := hfive.lt
  clear hsz
  generalize ((w1.alloc (.cells #[.slice none 0 0] 25)).alloc (.cells #[.int .i64 st, .int .i64 sk, .int .i64 hp, .int .i64 rt, .int .i64 (n : Int)] 3)) = w4 at *
  generalize w1.heap.size = g at *
  refine (putl_any w4.heap.size g none 0 0 [] _ 5 5 [st, sk, hp, rt, (n : Int)] w4 (fun W hX => ?_) rfl HQ.out.1 (by omega) (by omega) rfl (by omega) (Nat.le_refl _) hg4 (World.ownsRow_nil _ _ _ _)).mono ?_
  · have hd := hfive.belowx hX hf5 (by omega)
    refine ⟨rfl, fun _ => ⟨_, rfl, hd.lt, fun q u hu => ?_⟩⟩
    have hadd : (⟨g + 1, 0, none⟩ : Addr).add q = ⟨g + 1, q, none⟩ := by unfold Addr.add; split <;> simp_all
    rw [hadd, hd.cell q]
    simpa [vI] using hu
  rintro e w5 ⟨rfl, A5, c5, m5, hm5, hg5, o5, hX5⟩
  have hk5 := hk4.belowx hX5 hk4.lt (by omega)
  have hB5 := hB4.trans (hX5.below hB4.size (by omega))
  have R5 := R4.below (hX5.below hB4.size (by omega))
  have HM5 := Lib.hid hm5
  have hm5' : m5 ≤ 50 := by rw [← HM5.out]; simpa using HLL.out
  clear hm5 hg4 hk4 R4 hfive RF hB3 b3
  have z0 : w5.cell? ⟨w.heap.size, 0, none⟩ = some (.slice A n c) := (hk5.cell 0).trans rfl
  have z1 : w5.cell? ⟨w.heap.size, 1, none⟩ = some (.int .i64 st) := (hk5.cell 1).trans rfl
  have z2 : w5.cell? ⟨w.heap.size, 2, none⟩ = some (.int .i64 sk) := (hk5.cell 2).trans rfl
  have z3 : w5.cell? ⟨w.heap.size, 3, none⟩ = some (.int .i64 hp) := (hk5.cell 3).trans rfl
  have z4 : w5.cell? ⟨w.heap.size, 4, none⟩ = some (.int .i64 rt) := (hk5.cell 4).trans rfl
  go_wp2_with fail
  refine (putl_any w4.heap.size g A5 m5 c5 ([] ++ cod [st, sk, hp, rt, (n : Int)]) A n c l w5 (fun W hX => (R5.below (hX.below hB4.size (by omega))).more (Nat.le_trans hB5.size hX.size)) HL.out HQ.out.2 (by omega) (by omega) HM5.out (by omega) hX5.size hg5 o5).mono ?_
  rintro e w6 ⟨rfl, A6, c6, m6, hm6, hg6, o6, hX6⟩
  have hB6 := hB5.trans (hX6.below hB4.size (by omega))
  have HM6 := Lib.hid hm6
  clear hm6
  have cg : w6.cell? ⟨g, 0, none⟩ = some (.slice A6 m6 c6) := (hg6.cell 0).trans rfl
  go_wp2_with fail
  go_ret2
  have hlen : (enL st sk hp rt l).length = m6 := by rw [HV.out]; exact HM6.out
  rw [hlen, HE.out]
  exact ⟨A6, c6, rfl, by rw [HV.out]; exact own_low o6 hB4.size, hB6⟩
theorem vI_one (l : List Int) : ∀ u ∈ l.map vI, u.oneCell' = true := by
  intro u hu
  obtain ⟨c, _, rfl⟩ := List.mem_map.1 hu
  rfl

end Go.Proofs.Ytldaijkcmnnjpaa
