/- Contracts of Encode of a script and of the reference's. Each states its conditions. -/
import Derived.Test.YtgobebiagpejkaaScr2
namespace Go.Proofs.Ytgobebiagpejkaa
open Go.RowKit Wire
set_option linter.unusedVariables false

theorem slI : IsSl Try.prog 27 3 (.int .i64 0) 1 8 := ⟨Try.underlying27, by kernel_rfl, rfl, by omega, by omega⟩
/-- What Encode answers. -/
def fullL (st sk hp rt : Int) (l : List Int) : List Int := [st, sk, hp, rt, (l.length : Int)] ++ l
def enL (st sk hp rt : Int) (l : List Int) : List UInt8 := if scB st sk hp rt l then cod (fullL st sk hp rt l) else []
theorem sc_parts {st sk hp rt : Int} {l : List Int} (h : scB st sk hp rt l = true) : (1 ≤ st ∧ st ≤ 5000) ∧ (0 ≤ sk ∧ sk ≤ 4096) ∧ (0 ≤ hp ∧ hp ≤ 16384) ∧ (1 ≤ rt ∧ rt ≤ 16) ∧ l.length ≤ 2000 ∧ ∀ z ∈ l, 0 ≤ z ∧ z ≤ 65535 := by
  simp only [scB, limB, Bool.and_eq_true, inB_true, decide_eq_true_eq, Bool.not_eq_true'] at h
  obtain ⟨⟨h1, h2, h3, h4⟩, h5, h6⟩ := h
  refine ⟨h1, h2, h3, h4, h5, fun z hz => ?_⟩
  rw [List.any_eq_false] at h6
  have := h6 z hz
  simp [badP, inB_true] at this
  exact this
theorem ok_full {st sk hp rt : Int} {l : List Int} (h : scB st sk hp rt l = true) : okI [st, sk, hp, rt, (l.length : Int)] ∧ okI l := by
  obtain ⟨h1, h2, h3, h4, h5, h6⟩ := sc_parts h
  refine ⟨fun z hz => ?_, fun z hz => by have := h6 z hz; omega⟩
  simp at hz; omega
theorem reads_ints (w : World) (l : List Int) (e : TypeId) : RdI (w.alloc (.cells (l.map vI).toArray e)) (w.alloc (.cells (l.map vI).toArray e)).heap.size (some ⟨w.heap.size, 0, none⟩) l.length l := by
  have h := reads_row w (l.map vI) e
  rw [List.length_map] at h
  exact h.more (by simp)

set_option maxRecDepth 100000 in
set_option maxHeartbeats 3200000 in
theorem encode11_any (A : Option Addr) (n c : Nat) (l : List Int) (st sk hp rt : Int) (w : World) (hr : RdI w w.heap.size A n l) (hn : n ≤ 9223372036854775807) :
    Calls Try.prog 13 #[scr A n c st sk hp rt] w fun e w' => ∃ A' c', e = .returned (.tuple #[.slice A' (enL st sk hp rt l).length c', .int .i64 (scE st sk hp rt l)]) ∧ w'.ownsRow w.heap.size 5 1 (.slice A' (enL st sk hp rt l).length c') (enL st sk hp rt l).length ((enL st sk hp rt l).map b8) ∧ Below w.heap.size w w' := by
  have HL := Lib.hid hr.lenI
  have hB1 := (Below.refl w.heap.size w).alloc (Nat.le_refl _) (.cells #[.slice A n c, .int .i64 st, .int .i64 sk, .int .i64 hp, .int .i64 rt] 31)
  have hk1 := Blk.new w 31 #[.slice A n c, .int .i64 st, .int .i64 sk, .int .i64 hp, .int .i64 rt]
  have HR := Lib.hid (hr.below hB1)
  have HS1 := Lib.hid hB1.size
  clear hr
  cases hs : scB st sk hp rt l
  · have HE := Lib.hid (show scE st sk hp rt l = 8 from by simp [scE, hs])
    have HV := Lib.hid (show enL st sk hp rt l = [] from by simp [enL, hs])
    clear hs
    go_enter Try.func13, Try.ntmps13
    go_wp2_with fail
    refine (check11_any A n c l st sk hp rt _ (HR.out.more hB1.size) hn).mono ?_
    rintro e w1 ⟨rfl, b1⟩
    rw [HE.out]
    go_wp2_with fail
    go_ret2
    exact ⟨none, 0, by rw [HV.out, HE.out]; rfl, by rw [HV.out]; exact World.ownsRow_nil _ _ _ _, hB1.trans (b1.mono hB1.size)⟩
  have HE := Lib.hid (show scE st sk hp rt l = 0 from by simp [scE, hs])
  have HV := Lib.hid (show enL st sk hp rt l = ([] ++ cod [st, sk, hp, rt, (n : Int)]) ++ cod l from by simp only [enL, hs, if_true, fullL, cod_append, List.nil_append]; rw [HL.out])
  have HQ := Lib.hid (show okI [st, sk, hp, rt, (n : Int)] ∧ okI l from by have h := ok_full hs; rw [HL.out] at h; exact h)
  have hn2 : n ≤ 2000 := by have := (sc_parts hs).2.2.2.2.1; rw [HL.out] at this; exact this
  have HLL := Lib.hid (cod_len [st, sk, hp, rt, (n : Int)])
  have HLN := Lib.hid (show (5 : Nat) = [st, sk, hp, rt, (n : Int)].length from rfl)
  clear hs
  go_enter Try.func13, Try.ntmps13
  go_wp2_with fail
  refine (check11_any A n c l st sk hp rt _ (HR.out.more hB1.size) hn).mono ?_
  rintro e w1 ⟨rfl, b1⟩
  rw [HE.out]
  have hB2 := hB1.trans (b1.mono hB1.size)
  have hk2 := hk1.below b1 hk1.lt
  have R2 := HR.out.below (b1.mono hB1.size)
  -- the variable out, and the five numbers
  have b2 := Ext.al w1 (.cells #[.slice none 0 0] 33)
  have hg3 := Blk.new w1 33 #[.slice none 0 0]
  have hk3 := hk2.below b2 hk2.lt
  have hB3 := hB2.trans (Below.mono b2 hB2.size)
  have R3 := R2.below (Below.mono b2 hB2.size)
  have hlt2 := hk2.lt
  have hge : w.heap.size ≤ w1.heap.size := hB2.size
  have z0 : (w1.alloc (.cells #[.slice none 0 0] 33)).cell? ⟨w.heap.size, 0, none⟩ = some (.slice A n c) := (hk3.cell 0).trans rfl
  have z1 : (w1.alloc (.cells #[.slice none 0 0] 33)).cell? ⟨w.heap.size, 1, none⟩ = some (.int .i64 st) := (hk3.cell 1).trans rfl
  have z2 : (w1.alloc (.cells #[.slice none 0 0] 33)).cell? ⟨w.heap.size, 2, none⟩ = some (.int .i64 sk) := (hk3.cell 2).trans rfl
  have z3 : (w1.alloc (.cells #[.slice none 0 0] 33)).cell? ⟨w.heap.size, 3, none⟩ = some (.int .i64 hp) := (hk3.cell 3).trans rfl
  have z4 : (w1.alloc (.cells #[.slice none 0 0] 33)).cell? ⟨w.heap.size, 4, none⟩ = some (.int .i64 rt) := (hk3.cell 4).trans rfl
  clear hk1 hk2 R2 b1
  go_wp2_with fail
  have b3 := Ext.al (w1.alloc (.cells #[.slice none 0 0] 33)) (.cells #[.int .i64 st, .int .i64 sk, .int .i64 hp, .int .i64 rt, .int .i64 (n : Int)] 3)
  have RF := reads_ints (w1.alloc (.cells #[.slice none 0 0] 33)) [st, sk, hp, rt, (n : Int)] 3
  have hgl := hg3.lt
  have hg4 := hg3.below b3 hg3.lt
  have hk4 := hk3.below b3 hk3.lt
  have hB4 := hB3.trans (Below.mono b3 hB3.size)
  have R4 := R3.below (Below.mono b3 hB3.size)
  have hfive := Blk.new (w1.alloc (.cells #[.slice none 0 0] 33)) 3 #[.int .i64 st, .int .i64 sk, .int .i64 hp, .int .i64 rt, .int .i64 (n : Int)]
  have hsz : (w1.alloc (.cells #[.slice none 0 0] 33)).heap.size = w1.heap.size + 1 := alloc_size _ _
  clear z0 z1 z2 z3 z4 hk3 hg3 R3 b2
  rw [hsz] at hfive
  have hf5 := hfive.lt
  clear hsz
  generalize ((w1.alloc (.cells #[.slice none 0 0] 33)).alloc (.cells #[.int .i64 st, .int .i64 sk, .int .i64 hp, .int .i64 rt, .int .i64 (n : Int)] 3)) = w4 at *
  generalize w1.heap.size = g at *
  refine (putl_any w4.heap.size g none 0 0 [] _ 5 5 [st, sk, hp, rt, (n : Int)] w4 (fun W hX => ?_) rfl HQ.out.1 (by omega) (by omega) rfl (by omega) (Nat.le_refl _) hg4 (World.ownsRow_nil _ _ _ _)).mono ?_
  · have hd := hfive.belowx hX hf5 (by omega)
    refine ⟨rfl, fun _ => ⟨_, rfl, hd.lt, fun q u hu => ?_⟩⟩
    have hadd : (⟨g + 1, 0, none⟩ : Addr).add q = ⟨g + 1, q, none⟩ := by unfold Addr.add; split <;> simp_all
    rw [hadd, hd.cell q]
    simpa [vI] using hu
  rintro e w5 ⟨rfl, A5, c5, m5, hm5, hg5, o5, hX5⟩
  have hk5 := hk4.belowx hX5 hk4.lt (by omega)
  have hB5 := hB4.trans (hX5.below hB4.size (by omega))
  have R5 := R4.below (hX5.below hB4.size (by omega))
  have HM5 := Lib.hid hm5
  have hm5' : m5 ≤ 50 := by rw [← HM5.out]; simpa using HLL.out
  clear hm5 hg4 hk4 R4 hfive RF hB3 b3
  have z0 : w5.cell? ⟨w.heap.size, 0, none⟩ = some (.slice A n c) := (hk5.cell 0).trans rfl
  have z1 : w5.cell? ⟨w.heap.size, 1, none⟩ = some (.int .i64 st) := (hk5.cell 1).trans rfl
  have z2 : w5.cell? ⟨w.heap.size, 2, none⟩ = some (.int .i64 sk) := (hk5.cell 2).trans rfl
  have z3 : w5.cell? ⟨w.heap.size, 3, none⟩ = some (.int .i64 hp) := (hk5.cell 3).trans rfl
  have z4 : w5.cell? ⟨w.heap.size, 4, none⟩ = some (.int .i64 rt) := (hk5.cell 4).trans rfl
  go_wp2_with fail
  refine (putl_any w4.heap.size g A5 m5 c5 ([] ++ cod [st, sk, hp, rt, (n : Int)]) A n c l w5 (fun W hX => (R5.below (hX.below hB4.size (by omega))).more (Nat.le_trans hB5.size hX.size)) HL.out HQ.out.2 (by omega) (by omega) HM5.out (by omega) hX5.size hg5 o5).mono ?_
  rintro e w6 ⟨rfl, A6, c6, m6, hm6, hg6, o6, hX6⟩
  have hB6 := hB5.trans (hX6.below hB4.size (by omega))
  have HM6 := Lib.hid hm6
  clear hm6
  have cg : w6.cell? ⟨g, 0, none⟩ = some (.slice A6 m6 c6) := (hg6.cell 0).trans rfl
  go_wp2_with fail
  go_ret2
  have hlen : (enL st sk hp rt l).length = m6 := by rw [HV.out]; exact HM6.out
  rw [hlen, HE.out]
  exact ⟨A6, c6, rfl, by rw [HV.out]; exact own_low o6 hB4.size, hB6⟩

theorem vI_one (l : List Int) : ∀ u ∈ l.map vI, u.oneCell' = true := by
  intro u hu
  obtain ⟨c, _, rfl⟩ := List.mem_map.1 hu
  rfl
theorem own_row (w : World) (xs : List Value) (e : TypeId) (hl : xs.length ≤ 9223372036854775807) : (w.alloc (.cells xs.toArray e)).ownsRow w.heap.size e 1 (.slice (some ⟨w.heap.size, 0, none⟩) xs.length xs.length) xs.length xs := by
  refine ⟨by simp, .inr ⟨_, _, xs.toArray, rfl, Nat.le_refl _, heap_alloc_new w _, Nat.le_refl _, ?_, ?_, ?_⟩⟩
  · unfold maxLen; exact hl
  · simp
  · simp

set_option maxRecDepth 100000 in
set_option maxHeartbeats 3200000 in
theorem coded_any (A : Option Addr) (n c : Nat) (l : List Int) (st sk hp rt : Int) (w : World) (hr : RdI w w.heap.size A n l) (hn : n ≤ 9223372036854775807) (hs : scB st sk hp rt l = true) :
    Calls Try.prog 29 #[scr A n c st sk hp rt] w fun e w' => ∃ A' c', e = .returned (.slice A' (cod (fullL st sk hp rt l)).length c') ∧ w'.ownsRow w.heap.size 5 1 (.slice A' (cod (fullL st sk hp rt l)).length c') (cod (fullL st sk hp rt l)).length ((cod (fullL st sk hp rt l)).map b8) ∧ Below w.heap.size w w' := by
  have HL := Lib.hid hr.lenI
  have hB1 := (Below.refl w.heap.size w).alloc (Nat.le_refl _) (.cells #[.slice A n c, .int .i64 st, .int .i64 sk, .int .i64 hp, .int .i64 rt] 31)
  have hk1 := Blk.new w 31 #[.slice A n c, .int .i64 st, .int .i64 sk, .int .i64 hp, .int .i64 rt]
  have HR := Lib.hid (hr.below hB1)
  have HS1 := Lib.hid hB1.size
  clear hr
  obtain ⟨L, hLE⟩ : ∃ L, (fullL st sk hp rt l) = L := ⟨_, rfl⟩
  rw [hLE]
  have HF := Lib.hid (show L = [st, sk, hp, rt, (n : Int)] ++ l from by rw [← hLE, fullL, HL.out])
  have hn2 : n ≤ 2000 := by have := (sc_parts hs).2.2.2.2.1; rw [HL.out] at this; exact this
  have HFL := Lib.hid (show L.length = 5 + n from by rw [HF.out, List.length_append, HL.out]; rfl)
  have HOK := Lib.hid (show okI L from fun z hz => by
    have h := ok_full hs
    rw [← hLE, fullL, List.mem_append] at hz
    exact hz.elim (h.1 z) (h.2 z))
  clear hs hLE
  have z0 : (w.alloc (.cells #[.slice A n c, .int .i64 st, .int .i64 sk, .int .i64 hp, .int .i64 rt] 31)).cell? ⟨w.heap.size, 0, none⟩ = some (.slice A n c) := (hk1.cell 0).trans rfl
  have z1 : (w.alloc (.cells #[.slice A n c, .int .i64 st, .int .i64 sk, .int .i64 hp, .int .i64 rt] 31)).cell? ⟨w.heap.size, 1, none⟩ = some (.int .i64 st) := (hk1.cell 1).trans rfl
  have z2 : (w.alloc (.cells #[.slice A n c, .int .i64 st, .int .i64 sk, .int .i64 hp, .int .i64 rt] 31)).cell? ⟨w.heap.size, 2, none⟩ = some (.int .i64 sk) := (hk1.cell 2).trans rfl
  have z3 : (w.alloc (.cells #[.slice A n c, .int .i64 st, .int .i64 sk, .int .i64 hp, .int .i64 rt] 31)).cell? ⟨w.heap.size, 3, none⟩ = some (.int .i64 hp) := (hk1.cell 3).trans rfl
  have z4 : (w.alloc (.cells #[.slice A n c, .int .i64 st, .int .i64 sk, .int .i64 hp, .int .i64 rt] 31)).cell? ⟨w.heap.size, 4, none⟩ = some (.int .i64 rt) := (hk1.cell 4).trans rfl
  have b2 := Ext.al (w.alloc (.cells #[.slice A n c, .int .i64 st, .int .i64 sk, .int .i64 hp, .int .i64 rt] 31)) (.cells #[.int .i64 st, .int .i64 sk, .int .i64 hp, .int .i64 rt, .int .i64 (n : Int)] 3)
  have hB2 := hB1.trans (Below.mono b2 hB1.size)
  have R2 := HR.out.below (Below.mono b2 hB1.size)
  have hk2 := hk1.below b2 hk1.lt
  have O2 : ((w.alloc (.cells #[.slice A n c, .int .i64 st, .int .i64 sk, .int .i64 hp, .int .i64 rt] 31)).alloc (.cells #[.int .i64 st, .int .i64 sk, .int .i64 hp, .int .i64 rt, .int .i64 (n : Int)] 3)).ownsRow (w.heap.size + 1) 3 1 (.slice (some ⟨w.heap.size + 1, 0, none⟩) 5 5) 5 ([st, sk, hp, rt, (n : Int)].map vI) := by
    have h := own_row (w.alloc (.cells #[.slice A n c, .int .i64 st, .int .i64 sk, .int .i64 hp, .int .i64 rt] 31)) ([st, sk, hp, rt, (n : Int)].map vI) 3 (by simp)
    rw [alloc_size] at h
    exact h
  have y0 : ((w.alloc (.cells #[.slice A n c, .int .i64 st, .int .i64 sk, .int .i64 hp, .int .i64 rt] 31)).alloc (.cells #[.int .i64 st, .int .i64 sk, .int .i64 hp, .int .i64 rt, .int .i64 (n : Int)] 3)).cell? ⟨w.heap.size, 0, none⟩ = some (.slice A n c) := (hk2.cell 0).trans rfl
  have y1 : ((w.alloc (.cells #[.slice A n c, .int .i64 st, .int .i64 sk, .int .i64 hp, .int .i64 rt] 31)).alloc (.cells #[.int .i64 st, .int .i64 sk, .int .i64 hp, .int .i64 rt, .int .i64 (n : Int)] 3)).cell? ⟨w.heap.size, 1, none⟩ = some (.int .i64 st) := (hk2.cell 1).trans rfl
  have y2 : ((w.alloc (.cells #[.slice A n c, .int .i64 st, .int .i64 sk, .int .i64 hp, .int .i64 rt] 31)).alloc (.cells #[.int .i64 st, .int .i64 sk, .int .i64 hp, .int .i64 rt, .int .i64 (n : Int)] 3)).cell? ⟨w.heap.size, 2, none⟩ = some (.int .i64 sk) := (hk2.cell 2).trans rfl
  have y3 : ((w.alloc (.cells #[.slice A n c, .int .i64 st, .int .i64 sk, .int .i64 hp, .int .i64 rt] 31)).alloc (.cells #[.int .i64 st, .int .i64 sk, .int .i64 hp, .int .i64 rt, .int .i64 (n : Int)] 3)).cell? ⟨w.heap.size, 3, none⟩ = some (.int .i64 hp) := (hk2.cell 3).trans rfl
  have y4 : ((w.alloc (.cells #[.slice A n c, .int .i64 st, .int .i64 sk, .int .i64 hp, .int .i64 rt] 31)).alloc (.cells #[.int .i64 st, .int .i64 sk, .int .i64 hp, .int .i64 rt, .int .i64 (n : Int)] 3)).cell? ⟨w.heap.size, 4, none⟩ = some (.int .i64 rt) := (hk2.cell 4).trans rfl
  go_enter Try.func29, Try.ntmps29
  go_wp2_with (at_builtin; refine wpList_app rfl (.tmp 21) (.tmp 23) _ (by rfl) slI (w.heap.size + 1) _ 5 ([st, sk, hp, rt, (n : Int)].map vI) (by rfl) O2 _ A n c (l.map vI) (by rfl) R2 (vI_one _) (by omega) (by simp) ?_; intro A3 c3 w3 o3 hg3 b3 hc3)
  rw [← List.map_append, ← HF.out] at o3
  have hB3 := hB2.trans (b3.mono (by omega))
  have RL : RdI w3 w3.heap.size A3 (5 + n) L := own_reads o3
  have hsz3 : w.heap.size ≤ w3.heap.size := hB3.size
  clear z0 z1 z2 z3 z4 y0 y1 y2 y3 y4 hk1 hk2 O2 R2 b2 hB2 b3 hg3 HR
  go_loopw [4, 5] (fun v i wr => ∃ (j m : Nat) (A1 : Option Addr) (c1 : Nat), j ≤ 5 + n ∧ i = .int .i64 (j : Int) ∧ (cod (L.take j)).length = m ∧ m ≤ 10 * j ∧ v = .slice A1 m c1 ∧ wr.ownsRow w3.heap.size 5 1 (.slice A1 m c1) m ((cod (L.take j)).map b8) ∧ Below w3.heap.size w3 wr) (fun _ i _ => 5 + n - (intOf i).toNat)
  case atStart => exact ⟨0, 0, none, 0, by omega, rfl, by simp [cod_nil], by omega, rfl, by simpa [cod_nil] using World.ownsRow_nil _ _ _ _, Below.refl _ _⟩
  case round =>
    obtain ⟨j, m, A1, c1, hj, rfl, hm, hm2, rfl, hown, hb⟩ := hrel
    have HM := Lib.hid hm
    clear hm
    by_cases hlt : j < 5 + n
    · obtain ⟨ad, z, hA, hbb, hzj, hc⟩ := (RL.below hb).int hlt
      have hz0 := HOK.out z (List.mem_of_getElem? hzj)
      obtain ⟨k, rfl⟩ : ∃ k : Nat, z = (k : Int) := ⟨z.toNat, by omega⟩
      have HT := Lib.hid (cod_take hzj)
      rw [Int.toNat_natCast] at HT
      have hv := (vry_len k).2
      have HA := Lib.hid hA
      subst hA
      clear hzj
      go_wp2_with fail
      refine (minimal_any k (by omega) _).mono ?_
      rintro e w6 ⟨A6, c6, rfl, o6, b⟩
      have R6 := own_rd o6
      have hown6 := own_call hown b
      have hb6 := hb.trans (b.mono hb.size)
      clear hown hc
      go_wp2_with (at_builtin; refine wpList_app8 rfl (.tmp 31) (.tmp 37) _ (by rfl) sl8 w3.heap.size (by rfl) hown6 (by rfl) R6 (m + (vry k).length) rfl (by omega) hb6.size ?_; intro A7 c7 w7 o7 b7)
      go_roundw
      case rel => exact ⟨j + 1, m + (vry k).length, A7, c7, by omega, by go_num, by rw [HT.out, List.length_append, HM.out], by omega, rfl, by rw [HT.out]; exact o7, hb6.trans b7⟩
      case measure => simp [intOf]; omega
    · have hjn : j = 5 + n := by omega
      have HT := Lib.hid (show L.take j = L from List.take_of_length_le (by rw [HFL.out]; omega))
      rw [HT.out] at hown HM
      clear hjn
      go_wp2_with fail
      go_ret
      rw [HM.out]
      exact ⟨A1, c1, rfl, own_low hown hsz3, hB3.trans (hb.mono hsz3)⟩

set_option maxRecDepth 100000 in
set_option maxHeartbeats 3200000 in
theorem reencode11_any (A : Option Addr) (n c : Nat) (l : List Int) (st sk hp rt : Int) (w : World) (hr : RdI w w.heap.size A n l) (hn : n ≤ 9223372036854775807) :
    Calls Try.prog 14 #[scr A n c st sk hp rt] w fun e w' => ∃ A' c', e = .returned (.tuple #[.slice A' (enL st sk hp rt l).length c', .int .i64 (scE st sk hp rt l)]) ∧ w'.ownsRow w.heap.size 5 1 (.slice A' (enL st sk hp rt l).length c') (enL st sk hp rt l).length ((enL st sk hp rt l).map b8) ∧ Below w.heap.size w w' := by
  have HL := Lib.hid hr.lenI
  have hB1 := (Below.refl w.heap.size w).alloc (Nat.le_refl _) (.cells #[.slice A n c, .int .i64 st, .int .i64 sk, .int .i64 hp, .int .i64 rt] 31)
  have hk1 := Blk.new w 31 #[.slice A n c, .int .i64 st, .int .i64 sk, .int .i64 hp, .int .i64 rt]
  have HR := Lib.hid (hr.below hB1)
  have HS1 := Lib.hid hB1.size
  clear hr
  cases hs : scB st sk hp rt l
  · have HE := Lib.hid (show scE st sk hp rt l = 8 from by simp [scE, hs])
    have HV := Lib.hid (show enL st sk hp rt l = [] from by simp [enL, hs])
    clear hs
    go_enter Try.func14, Try.ntmps14
    go_wp2_with fail
    refine (recheck11_any A n c l st sk hp rt _ (HR.out.more hB1.size) hn).mono ?_
    rintro e w1 ⟨rfl, b1⟩
    rw [HE.out]
    go_wp2_with fail
    go_ret2
    exact ⟨none, 0, by rw [HV.out, HE.out]; rfl, by rw [HV.out]; exact World.ownsRow_nil _ _ _ _, hB1.trans (b1.mono hB1.size)⟩
  have HE := Lib.hid (show scE st sk hp rt l = 0 from by simp [scE, hs])
  have HV := Lib.hid (show enL st sk hp rt l = cod (fullL st sk hp rt l) from by simp only [enL, hs, if_true])
  have HC := Lib.hid (fun W (h : RdI W W.heap.size A n l) => coded_any A n c l st sk hp rt W h hn hs)
  clear hs
  go_enter Try.func14, Try.ntmps14
  go_wp2_with fail
  refine (recheck11_any A n c l st sk hp rt _ (HR.out.more hB1.size) hn).mono ?_
  rintro e w1 ⟨rfl, b1⟩
  rw [HE.out]
  have hB2 := hB1.trans (b1.mono hB1.size)
  have hk2 := hk1.below b1 hk1.lt
  have R2 := HR.out.below (b1.mono hB1.size)
  have z0 : w1.cell? ⟨w.heap.size, 0, none⟩ = some (.slice A n c) := (hk2.cell 0).trans rfl
  have z1 : w1.cell? ⟨w.heap.size, 1, none⟩ = some (.int .i64 st) := (hk2.cell 1).trans rfl
  have z2 : w1.cell? ⟨w.heap.size, 2, none⟩ = some (.int .i64 sk) := (hk2.cell 2).trans rfl
  have z3 : w1.cell? ⟨w.heap.size, 3, none⟩ = some (.int .i64 hp) := (hk2.cell 3).trans rfl
  have z4 : w1.cell? ⟨w.heap.size, 4, none⟩ = some (.int .i64 rt) := (hk2.cell 4).trans rfl
  go_wp2_with fail
  refine (HC.out _ (R2.more hB2.size)).mono ?_
  rintro e w2 ⟨A2, c2, rfl, o2, b2⟩
  go_wp2_with fail
  go_ret2
  exact ⟨A2, c2, by rw [HV.out, HE.out]; rfl, by rw [HV.out]; exact own_low o2 hB2.size, hB2.trans (b2.mono hB2.size)⟩

end Go.Proofs.Ytgobebiagpejkaa
