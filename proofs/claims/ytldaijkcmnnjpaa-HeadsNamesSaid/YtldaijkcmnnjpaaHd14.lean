/- Contracts and laws of a chapter that its statement of names leans on. Each states its conditions. -/
import Derived.Test.YtldaijkcmnnjpaaHd13
import Derived.Test.YtldaijkcmnnjpaaWx
import Derived.Test.YtldaijkcmnnjpaaWireReads4
import Derived.Test.YtldaijkcmnnjpaaWireUnvary
import Derived.Test.YtldaijkcmnnjpaaWireUnsig
namespace Go.Proofs.Ytldaijkcmnnjpaa
open Go.RowKit Wire
set_option linter.unusedVariables false
/-- What a step leaves in the reader. -/
def stC (A : Option Addr) (n c a : Nat) (bd : Bool) (A1 : Option Addr) (n1 c1 : Nat) (a1 er : Int) : Array Value :=
  if bd = false ∧ er = 0 then #[.slice A1 n1 c1, .int .i64 a1, .bool false] else #[.slice A n c, .int .i64 (a : Int), .bool true]
/-- What a read of a number does to a reader. -/
def NmS (l : List UInt8) (a : Nat) (bd : Bool) (most v a' : Nat) (bd' : Bool) : Prop :=
  v ≤ most ∧ a' ≤ l.length ∧ (bd = true → bd' = true) ∧ (bd = false → (bd' = true ∧ nm l a most = none) ∨ (bd' = false ∧ nm l a most = some (v, a')))
/-- What a read of a byte does to a reader. -/
def ByS (l : List UInt8) (a : Nat) (bd : Bool) (v a' : Nat) (bd' : Bool) : Prop :=
  v < 256 ∧ a' ≤ l.length ∧ (bd = true → bd' = true) ∧ (bd = false → (bd' = true ∧ l.length ≤ a) ∨ (bd' = false ∧ a < l.length ∧ v = ((l[a]?).getD 0).toNat ∧ a' = a + 1))
theorem nmS_of (A : Option Addr) (n c : Nat) {l : List UInt8} {a most : Nat} (ha : a ≤ l.length) : ∃ A1 n1 c1 a1 v er, uvC A n c l (a : Int) most = cur A1 n1 c1 a1 ∧ uvN l (a : Int) most = v ∧ uvE l (a : Int) most = er ∧ v ≤ most ∧
    ∀ bd, ∃ (a' : Nat) (bd' : Bool), stC A n c a bd A1 n1 c1 a1 er = #[.slice A n c, .int .i64 (a' : Int), .bool bd'] ∧ NmS l a bd most v a' bd' := by
  by_cases h : uvE l (a : Int) most = 0
  · obtain ⟨h1, h2⟩ := uv_ok A n c h
    have h3 : nm l a most = some ((uvR l (a : Int)).2.1, a + (uvR l (a : Int)).2.2) := if_pos h
    have h4 := nm_ok h3
    refine ⟨A, n, c, (a : Int) + (uvR l (a : Int)).2.2, (uvR l (a : Int)).2.1, 0, h2, h1, h, h4.2.1, fun bd => ?_⟩
    cases bd
    · exact ⟨a + (uvR l (a : Int)).2.2, false, by simp [stC], h4.2.1, h4.2.2.2.2.1, fun h => h, fun _ => .inr ⟨rfl, h3⟩⟩
    · exact ⟨a, true, by simp [stC], h4.2.1, ha, fun h => h, fun h => by cases h⟩
  · obtain ⟨h1, h2⟩ := uv_bad A n c rfl h
    have h3 : nm l a most = none := if_neg h
    refine ⟨none, 0, 0, 0, 0, _, h2, h1, rfl, Nat.zero_le _, fun bd => ⟨a, true, ?_, Nat.zero_le _, ha, fun _ => rfl, fun _ => .inl ⟨rfl, h3⟩⟩⟩
    unfold stC
    rw [if_neg (fun k => h k.2)]
theorem byS_of (A : Option Addr) (n c : Nat) {l : List UInt8} {a : Nat} (ha : a ≤ l.length) (hl : l.length ≤ 200000) : ∃ A1 n1 c1 a1 v er, ufC A n c l (a : Int) 1 = cur A1 n1 c1 a1 ∧ ufN l (a : Int) 1 = v ∧ ufE l (a : Int) 1 = er ∧ v < 256 ∧
    ∀ bd, ∃ (a' : Nat) (bd' : Bool), stC A n c a bd A1 n1 c1 a1 er = #[.slice A n c, .int .i64 (a' : Int), .bool bd'] ∧ ByS l a bd v a' bd' := by
  by_cases h : a < l.length
  · obtain ⟨h1, h2, h3⟩ := uf_mk (l := l) (k := a) (v := 1) (by omega) hl (by decide) A n c
    have hz : l[a]? = some l[a] := List.getElem?_eq_getElem h
    obtain ⟨y, hy⟩ : ∃ y, l[a] = y := ⟨_, rfl⟩
    rw [hy] at hz
    have hu : unl ((l.drop a).take 1) = y.toNat := by rw [drop_at hz]; simp [unl]
    have hyl := y.toNat_lt
    rw [hu] at h2
    refine ⟨A, n, c, (a : Int) + 1, y.toNat, 0, by simpa using h3, by simpa using h2, by simpa using h1, hyl, fun bd => ?_⟩
    cases bd
    · exact ⟨a + 1, false, by simp [stC], hyl, by omega, fun h => h, fun _ => .inr ⟨rfl, h, by rw [hz]; rfl, rfl⟩⟩
    · exact ⟨a, true, by simp [stC], hyl, ha, fun h => h, fun h => by cases h⟩
  · have h1 : ufE l (a : Int) 1 = 24 := by
      unfold ufE
      rw [if_pos (ck_yes ha hl), if_pos (by decide), if_pos (by omega)]
    refine ⟨none, 0, 0, 0, 0, 24, by simp [ufC, h1], by simp [ufN, h1], h1, by omega, fun bd => ⟨a, true, ?_, by omega, ha, fun _ => rfl, fun _ => .inl ⟨rfl, by omega⟩⟩⟩
    unfold stC
    rw [if_neg (fun k => by omega)]
set_option maxRecDepth 100000 in
set_option maxHeartbeats 1600000 in
theorem step_any (g : Nat) (A : Option Addr) (n c a : Nat) (bd : Bool) (A1 : Option Addr) (n1 c1 : Nat) (a1 er : Int) (w : World) (hk : Blk w g 178 #[.slice A n c, .int .i64 (a : Int), .bool bd]) :
    Calls Try.prog 108 #[.pointer (some ⟨g, 0, none⟩), cur A1 n1 c1 a1, .int .i64 er] w fun e w' => e = .returned (.tuple #[]) ∧ Blk w' g 178 (stC A n c a bd A1 n1 c1 a1 er) ∧ BelowX w.heap.size g w w' := by
  cases bd
  · by_cases h0 : er = 0
    · subst h0
      have hgl := hk.lt
      have hk0 := hk
      have z1 : w.cell? ⟨g, 0, none⟩ = some (.slice A n c) := (hk.cell 0).trans rfl
      have z2 := hk.frozen 0
      have z3 : w.cell? ⟨g, 1, none⟩ = some (.int .i64 (a : Int)) := (hk.cell 1).trans rfl
      have z4 := hk.frozen 1
      have z5 : w.cell? ⟨g, 2, none⟩ = some (.bool false) := (hk.cell 2).trans rfl
      have z6 := hk.frozen 2
      have z7 := hk.lt
      have hB : BelowX w.heap.size g w (w.alloc (.cells #[.slice A1 n1 c1, .int .i64 a1] 70)) := (BelowX.al (BelowX.refl w.heap.size g w) (by simp <;> omega) (.cells #[.slice A1 n1 c1, .int .i64 a1] 70))
      replace hk := hk.alloc (.cells #[.slice A1 n1 c1, .int .i64 a1] 70)
      have hc := Blk.new w 70 #[.slice A1 n1 c1, .int .i64 a1]
      have rd_hc : w.heap.size ≠ g := (by omega)
      go_enter Try.func108, Try.ntmps108
      have z8 : (w.alloc (.cells #[.slice A1 n1 c1, .int .i64 a1] 70)).cell? ⟨g, 0, none⟩ = some (.slice A n c) := (hk.cell 0).trans rfl
      have z9 := hk.frozen 0
      have z10 : (w.alloc (.cells #[.slice A1 n1 c1, .int .i64 a1] 70)).cell? ⟨g, 1, none⟩ = some (.int .i64 (a : Int)) := (hk.cell 1).trans rfl
      have z11 := hk.frozen 1
      have z12 : (w.alloc (.cells #[.slice A1 n1 c1, .int .i64 a1] 70)).cell? ⟨g, 2, none⟩ = some (.bool false) := (hk.cell 2).trans rfl
      have z13 := hk.frozen 2
      have z14 : (w.alloc (.cells #[.slice A1 n1 c1, .int .i64 a1] 70)).cell? ⟨w.heap.size, 0, none⟩ = some (.slice A1 n1 c1) := (hc.cell 0).trans rfl
      have z15 := hc.frozen 0
      have z16 : (w.alloc (.cells #[.slice A1 n1 c1, .int .i64 a1] 70)).cell? ⟨w.heap.size, 1, none⟩ = some (.int .i64 a1) := (hc.cell 1).trans rfl
      have z17 := hc.frozen 1
      have z18 := hk.lt
      have z19 := hc.lt
      go_wp2_with fail
      go_end0
      refine ⟨rfl, Blk.eq_ (by repeat (first | with_reducible exact hk | with_reducible exact hk0 | with_reducible (apply Blk.set_) | with_reducible (apply Blk.far; case hp => (simp <;> omega)) | with_reducible (apply Blk.alloc) | with_reducible (apply Blk.drew))) ?_, (by have hs_ := hB.size; repeat (first | with_reducible exact hB | with_reducible exact BelowX.refl _ _ _ | with_reducible (refine BelowX.setO ?_ (by first | (exact Or.inl rfl) | (exact Or.inr (by simp <;> omega))) _) | with_reducible (refine BelowX.al ?_ (by first | exact hs_ | (simp <;> omega)) _) | with_reducible (refine BelowX.drew ?_)))⟩
      simp [stC]
    · have d0 : (er != 0) = true := by simpa using h0
      have hgl := hk.lt
      have hk0 := hk
      have z1 : w.cell? ⟨g, 0, none⟩ = some (.slice A n c) := (hk.cell 0).trans rfl
      have z2 := hk.frozen 0
      have z3 : w.cell? ⟨g, 1, none⟩ = some (.int .i64 (a : Int)) := (hk.cell 1).trans rfl
      have z4 := hk.frozen 1
      have z5 : w.cell? ⟨g, 2, none⟩ = some (.bool false) := (hk.cell 2).trans rfl
      have z6 := hk.frozen 2
      have z7 := hk.lt
      have hB : BelowX w.heap.size g w (w.alloc (.cells #[.slice A1 n1 c1, .int .i64 a1] 70)) := (BelowX.al (BelowX.refl w.heap.size g w) (by simp <;> omega) (.cells #[.slice A1 n1 c1, .int .i64 a1] 70))
      replace hk := hk.alloc (.cells #[.slice A1 n1 c1, .int .i64 a1] 70)
      have hc := Blk.new w 70 #[.slice A1 n1 c1, .int .i64 a1]
      have rd_hc : w.heap.size ≠ g := (by omega)
      go_enter Try.func108, Try.ntmps108
      have z8 : (w.alloc (.cells #[.slice A1 n1 c1, .int .i64 a1] 70)).cell? ⟨g, 0, none⟩ = some (.slice A n c) := (hk.cell 0).trans rfl
      have z9 := hk.frozen 0
      have z10 : (w.alloc (.cells #[.slice A1 n1 c1, .int .i64 a1] 70)).cell? ⟨g, 1, none⟩ = some (.int .i64 (a : Int)) := (hk.cell 1).trans rfl
      have z11 := hk.frozen 1
      have z12 : (w.alloc (.cells #[.slice A1 n1 c1, .int .i64 a1] 70)).cell? ⟨g, 2, none⟩ = some (.bool false) := (hk.cell 2).trans rfl
      have z13 := hk.frozen 2
      have z14 : (w.alloc (.cells #[.slice A1 n1 c1, .int .i64 a1] 70)).cell? ⟨w.heap.size, 0, none⟩ = some (.slice A1 n1 c1) := (hc.cell 0).trans rfl
      have z15 := hc.frozen 0
      have z16 : (w.alloc (.cells #[.slice A1 n1 c1, .int .i64 a1] 70)).cell? ⟨w.heap.size, 1, none⟩ = some (.int .i64 a1) := (hc.cell 1).trans rfl
      have z17 := hc.frozen 1
      have z18 := hk.lt
      have z19 := hc.lt
      go_wp2_with fail
      go_end0
      refine ⟨rfl, Blk.eq_ (by repeat (first | with_reducible exact hk | with_reducible exact hk0 | with_reducible (apply Blk.set_) | with_reducible (apply Blk.far; case hp => (simp <;> omega)) | with_reducible (apply Blk.alloc) | with_reducible (apply Blk.drew))) ?_, (by have hs_ := hB.size; repeat (first | with_reducible exact hB | with_reducible exact BelowX.refl _ _ _ | with_reducible (refine BelowX.setO ?_ (by first | (exact Or.inl rfl) | (exact Or.inr (by simp <;> omega))) _) | with_reducible (refine BelowX.al ?_ (by first | exact hs_ | (simp <;> omega)) _) | with_reducible (refine BelowX.drew ?_)))⟩
      simp [stC, h0]
  · have h0 := 0
    have hgl := hk.lt
    have hk0 := hk
    have z1 : w.cell? ⟨g, 0, none⟩ = some (.slice A n c) := (hk.cell 0).trans rfl
    have z2 := hk.frozen 0
    have z3 : w.cell? ⟨g, 1, none⟩ = some (.int .i64 (a : Int)) := (hk.cell 1).trans rfl
    have z4 := hk.frozen 1
    have z5 : w.cell? ⟨g, 2, none⟩ = some (.bool true) := (hk.cell 2).trans rfl
    have z6 := hk.frozen 2
    have z7 := hk.lt
    have hB : BelowX w.heap.size g w (w.alloc (.cells #[.slice A1 n1 c1, .int .i64 a1] 70)) := (BelowX.al (BelowX.refl w.heap.size g w) (by simp <;> omega) (.cells #[.slice A1 n1 c1, .int .i64 a1] 70))
    replace hk := hk.alloc (.cells #[.slice A1 n1 c1, .int .i64 a1] 70)
    have hc := Blk.new w 70 #[.slice A1 n1 c1, .int .i64 a1]
    have rd_hc : w.heap.size ≠ g := (by omega)
    go_enter Try.func108, Try.ntmps108
    have z8 : (w.alloc (.cells #[.slice A1 n1 c1, .int .i64 a1] 70)).cell? ⟨g, 0, none⟩ = some (.slice A n c) := (hk.cell 0).trans rfl
    have z9 := hk.frozen 0
    have z10 : (w.alloc (.cells #[.slice A1 n1 c1, .int .i64 a1] 70)).cell? ⟨g, 1, none⟩ = some (.int .i64 (a : Int)) := (hk.cell 1).trans rfl
    have z11 := hk.frozen 1
    have z12 : (w.alloc (.cells #[.slice A1 n1 c1, .int .i64 a1] 70)).cell? ⟨g, 2, none⟩ = some (.bool true) := (hk.cell 2).trans rfl
    have z13 := hk.frozen 2
    have z14 : (w.alloc (.cells #[.slice A1 n1 c1, .int .i64 a1] 70)).cell? ⟨w.heap.size, 0, none⟩ = some (.slice A1 n1 c1) := (hc.cell 0).trans rfl
    have z15 := hc.frozen 0
    have z16 : (w.alloc (.cells #[.slice A1 n1 c1, .int .i64 a1] 70)).cell? ⟨w.heap.size, 1, none⟩ = some (.int .i64 a1) := (hc.cell 1).trans rfl
    have z17 := hc.frozen 1
    have z18 := hk.lt
    have z19 := hc.lt
    go_wp2_with fail
    go_end0
    refine ⟨rfl, Blk.eq_ (by repeat (first | with_reducible exact hk | with_reducible exact hk0 | with_reducible (apply Blk.set_) | with_reducible (apply Blk.far; case hp => (simp <;> omega)) | with_reducible (apply Blk.alloc) | with_reducible (apply Blk.drew))) ?_, (by have hs_ := hB.size; repeat (first | with_reducible exact hB | with_reducible exact BelowX.refl _ _ _ | with_reducible (refine BelowX.setO ?_ (by first | (exact Or.inl rfl) | (exact Or.inr (by simp <;> omega))) _) | with_reducible (refine BelowX.al ?_ (by first | exact hs_ | (simp <;> omega)) _) | with_reducible (refine BelowX.drew ?_)))⟩
    simp [stC]
set_option maxRecDepth 100000 in
set_option maxHeartbeats 1600000 in
theorem number_any (g : Nat) (A : Option Addr) (n c a : Nat) (bd : Bool) (l : List UInt8) (most : Nat) (hm : most < 18446744073709551616) (w : World) (hk : Blk w g 178 #[.slice A n c, .int .i64 (a : Int), .bool bd]) (hr : RdB w g A n l) (hn : l.length ≤ 200000) (ha : a ≤ l.length) :
    Calls Try.prog 88 #[.pointer (some ⟨g, 0, none⟩), .int .u64 (most : Int)] w fun e w' => ∃ (v a' : Nat) (bd' : Bool), e = .returned (.int .u64 (v : Int)) ∧ NmS l a bd most v a' bd' ∧ Blk w' g 178 #[.slice A n c, .int .i64 (a' : Int), .bool bd'] ∧ BelowX w.heap.size g w w' := by
  have hgl := hk.lt
  have HR := Lib.hid hr
  clear hr
  obtain ⟨A1, n1, c1, a1, v, er, e1, e2, e3, hv, hs⟩ := nmS_of A n c (most := most) ha
  have HS := Lib.hid hs
  clear hs
  have HU := Lib.hid (fun W (h : Rb W A n l) => unvary_any A n c l a most W h (by have := HR.out.len8; omega) hm (by omega))
  rw [e1, e2, e3] at HU
  clear e1 e2 e3
  have hB := BelowX.refl w.heap.size g w
  go_enter Try.func88, Try.ntmps88
  have z1 : w.cell? ⟨g, 0, none⟩ = some (.slice A n c) := (hk.cell 0).trans rfl
  have z2 := hk.frozen 0
  have z3 : w.cell? ⟨g, 1, none⟩ = some (.int .i64 (a : Int)) := (hk.cell 1).trans rfl
  have z4 := hk.frozen 1
  have z5 : w.cell? ⟨g, 2, none⟩ = some (.bool bd) := (hk.cell 2).trans rfl
  have z6 := hk.frozen 2
  have z7 := hk.lt
  go_wp2_with fail
  have z8 := hk.lt
  with_reducible refine (HU.out _ (Reads.more (Reads.below HR.out (BelowX.below hB (Nat.le_of_lt hgl) (Nat.le_refl _))) (by have := hB.size; omega))).mono ?_
  rintro e w1 ⟨rfl, bB⟩
  replace hk := Blk.via0 (g := g) (t := 178) bB (by repeat (first | with_reducible exact hk | with_reducible (apply Blk.set_) | with_reducible (apply Blk.far; case hp => (simp <;> omega)) | with_reducible (apply Blk.alloc) | with_reducible (apply Blk.drew)))
  replace hk : Blk w1 g 178 #[.slice A n c, .int .i64 (a : Int), .bool bd] := hk
  have hBs := hB.size
  replace hB := BelowX.via (B := w.heap.size) (u := w) (by have hs_ := hB.size; repeat (first | with_reducible exact hB | with_reducible exact BelowX.refl _ _ _ | with_reducible (refine BelowX.setO ?_ (by first | (exact Or.inl rfl) | (exact Or.inr (by simp <;> omega))) _) | with_reducible (refine BelowX.al ?_ (by first | exact hs_ | (simp <;> omega)) _) | with_reducible (refine BelowX.drew ?_))) (by first | omega | (simp <;> omega)) (BelowX.of bB g)
  clear hBs
  clear z1 z2 z3 z4 z5 z6 z7 z8
  clear bB
  have z9 : w1.cell? ⟨g, 0, none⟩ = some (.slice A n c) := (hk.cell 0).trans rfl
  have z10 := hk.frozen 0
  have z11 : w1.cell? ⟨g, 1, none⟩ = some (.int .i64 (a : Int)) := (hk.cell 1).trans rfl
  have z12 := hk.frozen 1
  have z13 : w1.cell? ⟨g, 2, none⟩ = some (.bool bd) := (hk.cell 2).trans rfl
  have z14 := hk.frozen 2
  have z15 := hk.lt
  go_wp2_with fail
  have z16 := hk.lt
  with_reducible refine (step_any g A n c a bd A1 n1 c1 a1 er _ ((by repeat (first | with_reducible exact hk | with_reducible (apply Blk.set_) | with_reducible (apply Blk.far; case hp => (simp <;> omega)) | with_reducible (apply Blk.alloc) | with_reducible (apply Blk.drew))))).mono ?_
  rintro e w2 ⟨rfl, hk_, bB⟩
  have o_hk_hc : g < w1.heap.size := (by omega)
  have ow_hc : w.heap.size ≤ w1.heap.size := (by have := hB.size; omega)
  have rd_hc : w1.heap.size ≠ g := (by omega)
  have hc := Blk.viax (g := w1.heap.size) (t := 70) bB rd_hc (by repeat (first | with_reducible exact Blk.newAt (by simp) _ _ | with_reducible (apply Blk.set_) | with_reducible (apply Blk.far; case hp => (simp <;> omega)) | with_reducible (apply Blk.alloc) | with_reducible (apply Blk.drew)))
  replace hc : Blk w2 w1.heap.size 70 #[.slice A1 n1 c1, .int .i64 a1] := hc
  have hBs := hB.size
  replace hB := BelowX.via (B := w.heap.size) (u := w) (by have hs_ := hB.size; repeat (first | with_reducible exact hB | with_reducible exact BelowX.refl _ _ _ | with_reducible (refine BelowX.setO ?_ (by first | (exact Or.inl rfl) | (exact Or.inr (by simp <;> omega))) _) | with_reducible (refine BelowX.al ?_ (by first | exact hs_ | (simp <;> omega)) _) | with_reducible (refine BelowX.drew ?_))) (by first | omega | (simp <;> omega)) bB
  clear hBs
  replace hk := hk_
  clear hk_
  clear z9 z10 z11 z12 z13 z14 z15 z16
  clear bB
  generalize w1.heap.size = q at *
  obtain ⟨a2, bd2, hst, hS⟩ := HS.out bd
  rw [hst] at hk
  have HSS := Lib.hid hS
  clear hS
  go_wp2_with fail
  go_ret
  exact ⟨_, a2, bd2, rfl, HSS.out, hk, hB⟩
set_option maxRecDepth 100000 in
set_option maxHeartbeats 1600000 in
theorem rsig_any (g : Nat) (A : Option Addr) (n c a : Nat) (bd : Bool) (l : List UInt8) (w : World) (hk : Blk w g 178 #[.slice A n c, .int .i64 (a : Int), .bool bd]) (hr : RdB w g A n l) (hn : l.length ≤ 200000) (ha : a ≤ l.length) :
    Calls Try.prog 91 #[.pointer (some ⟨g, 0, none⟩)] w fun e w' => ∃ (v a' : Nat) (bd' : Bool), e = .returned (.int .i64 (hlf v)) ∧ NmS l a bd 18446744073709551615 v a' bd' ∧ Blk w' g 178 #[.slice A n c, .int .i64 (a' : Int), .bool bd'] ∧ BelowX w.heap.size g w w' := by
  have hgl := hk.lt
  have HR := Lib.hid hr
  clear hr
  obtain ⟨A1, n1, c1, a1, v, er, e1, e2, e3, hv, hs⟩ := nmS_of A n c (most := 18446744073709551615) ha
  have HS := Lib.hid hs
  clear hs
  have HU := Lib.hid (fun W (h : Rb W A n l) => unsigned_any A n c l a W h (by have := HR.out.len8; omega) (by omega))
  rw [e1, e2, e3] at HU
  clear e1 e2 e3
  have hB := BelowX.refl w.heap.size g w
  go_enter Try.func91, Try.ntmps91
  have z1 : w.cell? ⟨g, 0, none⟩ = some (.slice A n c) := (hk.cell 0).trans rfl
  have z2 := hk.frozen 0
  have z3 : w.cell? ⟨g, 1, none⟩ = some (.int .i64 (a : Int)) := (hk.cell 1).trans rfl
  have z4 := hk.frozen 1
  have z5 : w.cell? ⟨g, 2, none⟩ = some (.bool bd) := (hk.cell 2).trans rfl
  have z6 := hk.frozen 2
  have z7 := hk.lt
  go_wp2_with fail
  have z8 := hk.lt
  with_reducible refine (HU.out _ (Reads.more (Reads.below HR.out (BelowX.below hB (Nat.le_of_lt hgl) (Nat.le_refl _))) (by have := hB.size; omega))).mono ?_
  rintro e w1 ⟨rfl, bB⟩
  replace hk := Blk.via0 (g := g) (t := 178) bB (by repeat (first | with_reducible exact hk | with_reducible (apply Blk.set_) | with_reducible (apply Blk.far; case hp => (simp <;> omega)) | with_reducible (apply Blk.alloc) | with_reducible (apply Blk.drew)))
  replace hk : Blk w1 g 178 #[.slice A n c, .int .i64 (a : Int), .bool bd] := hk
  have hBs := hB.size
  replace hB := BelowX.via (B := w.heap.size) (u := w) (by have hs_ := hB.size; repeat (first | with_reducible exact hB | with_reducible exact BelowX.refl _ _ _ | with_reducible (refine BelowX.setO ?_ (by first | (exact Or.inl rfl) | (exact Or.inr (by simp <;> omega))) _) | with_reducible (refine BelowX.al ?_ (by first | exact hs_ | (simp <;> omega)) _) | with_reducible (refine BelowX.drew ?_))) (by first | omega | (simp <;> omega)) (BelowX.of bB g)
  clear hBs
  clear z1 z2 z3 z4 z5 z6 z7 z8
  clear bB
  have z9 : w1.cell? ⟨g, 0, none⟩ = some (.slice A n c) := (hk.cell 0).trans rfl
  have z10 := hk.frozen 0
  have z11 : w1.cell? ⟨g, 1, none⟩ = some (.int .i64 (a : Int)) := (hk.cell 1).trans rfl
  have z12 := hk.frozen 1
  have z13 : w1.cell? ⟨g, 2, none⟩ = some (.bool bd) := (hk.cell 2).trans rfl
  have z14 := hk.frozen 2
  have z15 := hk.lt
  go_wp2_with fail
  have z16 := hk.lt
  with_reducible refine (step_any g A n c a bd A1 n1 c1 a1 er _ ((by repeat (first | with_reducible exact hk | with_reducible (apply Blk.set_) | with_reducible (apply Blk.far; case hp => (simp <;> omega)) | with_reducible (apply Blk.alloc) | with_reducible (apply Blk.drew))))).mono ?_
  rintro e w2 ⟨rfl, hk_, bB⟩
  have o_hk_hc : g < w1.heap.size := (by omega)
  have ow_hc : w.heap.size ≤ w1.heap.size := (by have := hB.size; omega)
  have rd_hc : w1.heap.size ≠ g := (by omega)
  have hc := Blk.viax (g := w1.heap.size) (t := 70) bB rd_hc (by repeat (first | with_reducible exact Blk.newAt (by simp) _ _ | with_reducible (apply Blk.set_) | with_reducible (apply Blk.far; case hp => (simp <;> omega)) | with_reducible (apply Blk.alloc) | with_reducible (apply Blk.drew)))
  replace hc : Blk w2 w1.heap.size 70 #[.slice A1 n1 c1, .int .i64 a1] := hc
  have hBs := hB.size
  replace hB := BelowX.via (B := w.heap.size) (u := w) (by have hs_ := hB.size; repeat (first | with_reducible exact hB | with_reducible exact BelowX.refl _ _ _ | with_reducible (refine BelowX.setO ?_ (by first | (exact Or.inl rfl) | (exact Or.inr (by simp <;> omega))) _) | with_reducible (refine BelowX.al ?_ (by first | exact hs_ | (simp <;> omega)) _) | with_reducible (refine BelowX.drew ?_))) (by first | omega | (simp <;> omega)) bB
  clear hBs
  replace hk := hk_
  clear hk_
  clear z9 z10 z11 z12 z13 z14 z15 z16
  clear bB
  generalize w1.heap.size = q at *
  obtain ⟨a2, bd2, hst, hS⟩ := HS.out bd
  rw [hst] at hk
  have HSS := Lib.hid hS
  clear hS
  go_wp2_with fail
  go_ret
  exact ⟨_, a2, bd2, rfl, HSS.out, hk, hB⟩
set_option maxRecDepth 100000 in
set_option maxHeartbeats 1600000 in
theorem byte_any (g : Nat) (A : Option Addr) (n c a : Nat) (bd : Bool) (l : List UInt8) (hnc : n ≤ c) (w : World) (hk : Blk w g 178 #[.slice A n c, .int .i64 (a : Int), .bool bd]) (hr : RdB w g A n l) (hn : l.length ≤ 200000) (ha : a ≤ l.length) :
    Calls Try.prog 89 #[.pointer (some ⟨g, 0, none⟩)] w fun e w' => ∃ (v a' : Nat) (bd' : Bool), e = .returned (.int .u8 (v : Int)) ∧ ByS l a bd v a' bd' ∧ Blk w' g 178 #[.slice A n c, .int .i64 (a' : Int), .bool bd'] ∧ BelowX w.heap.size g w w' := by
  have hgl := hk.lt
  have HR := Lib.hid hr
  clear hr
  obtain ⟨A1, n1, c1, a1, v, er, e1, e2, e3, hv, hs⟩ := byS_of A n c ha hn
  have HS := Lib.hid hs
  clear hs
  have HU := Lib.hid (fun W (h : Rb W A n l) => unfixed_any A n c l a 1 W h (by have := HR.out.len8; omega) hnc (by omega) (by omega))
  rw [e1, e2, e3] at HU
  clear e1 e2 e3
  have hB := BelowX.refl w.heap.size g w
  go_enter Try.func89, Try.ntmps89
  have z1 : w.cell? ⟨g, 0, none⟩ = some (.slice A n c) := (hk.cell 0).trans rfl
  have z2 := hk.frozen 0
  have z3 : w.cell? ⟨g, 1, none⟩ = some (.int .i64 (a : Int)) := (hk.cell 1).trans rfl
  have z4 := hk.frozen 1
  have z5 : w.cell? ⟨g, 2, none⟩ = some (.bool bd) := (hk.cell 2).trans rfl
  have z6 := hk.frozen 2
  have z7 := hk.lt
  go_wp2_with fail
  have z8 := hk.lt
  with_reducible refine (HU.out _ (Reads.more (Reads.below HR.out (BelowX.below hB (Nat.le_of_lt hgl) (Nat.le_refl _))) (by have := hB.size; omega))).mono ?_
  rintro e w1 ⟨rfl, bB⟩
  replace hk := Blk.via0 (g := g) (t := 178) bB (by repeat (first | with_reducible exact hk | with_reducible (apply Blk.set_) | with_reducible (apply Blk.far; case hp => (simp <;> omega)) | with_reducible (apply Blk.alloc) | with_reducible (apply Blk.drew)))
  replace hk : Blk w1 g 178 #[.slice A n c, .int .i64 (a : Int), .bool bd] := hk
  have hBs := hB.size
  replace hB := BelowX.via (B := w.heap.size) (u := w) (by have hs_ := hB.size; repeat (first | with_reducible exact hB | with_reducible exact BelowX.refl _ _ _ | with_reducible (refine BelowX.setO ?_ (by first | (exact Or.inl rfl) | (exact Or.inr (by simp <;> omega))) _) | with_reducible (refine BelowX.al ?_ (by first | exact hs_ | (simp <;> omega)) _) | with_reducible (refine BelowX.drew ?_))) (by first | omega | (simp <;> omega)) (BelowX.of bB g)
  clear hBs
  clear z1 z2 z3 z4 z5 z6 z7 z8
  clear bB
  have z9 : w1.cell? ⟨g, 0, none⟩ = some (.slice A n c) := (hk.cell 0).trans rfl
  have z10 := hk.frozen 0
  have z11 : w1.cell? ⟨g, 1, none⟩ = some (.int .i64 (a : Int)) := (hk.cell 1).trans rfl
  have z12 := hk.frozen 1
  have z13 : w1.cell? ⟨g, 2, none⟩ = some (.bool bd) := (hk.cell 2).trans rfl
  have z14 := hk.frozen 2
  have z15 := hk.lt
  go_wp2_with fail
  have z16 := hk.lt
  with_reducible refine (step_any g A n c a bd A1 n1 c1 a1 er _ ((by repeat (first | with_reducible exact hk | with_reducible (apply Blk.set_) | with_reducible (apply Blk.far; case hp => (simp <;> omega)) | with_reducible (apply Blk.alloc) | with_reducible (apply Blk.drew))))).mono ?_
  rintro e w2 ⟨rfl, hk_, bB⟩
  have o_hk_hc : g < w1.heap.size := (by omega)
  have ow_hc : w.heap.size ≤ w1.heap.size := (by have := hB.size; omega)
  have rd_hc : w1.heap.size ≠ g := (by omega)
  have hc := Blk.viax (g := w1.heap.size) (t := 70) bB rd_hc (by repeat (first | with_reducible exact Blk.newAt (by simp) _ _ | with_reducible (apply Blk.set_) | with_reducible (apply Blk.far; case hp => (simp <;> omega)) | with_reducible (apply Blk.alloc) | with_reducible (apply Blk.drew)))
  replace hc : Blk w2 w1.heap.size 70 #[.slice A1 n1 c1, .int .i64 a1] := hc
  have hBs := hB.size
  replace hB := BelowX.via (B := w.heap.size) (u := w) (by have hs_ := hB.size; repeat (first | with_reducible exact hB | with_reducible exact BelowX.refl _ _ _ | with_reducible (refine BelowX.setO ?_ (by first | (exact Or.inl rfl) | (exact Or.inr (by simp <;> omega))) _) | with_reducible (refine BelowX.al ?_ (by first | exact hs_ | (simp <;> omega)) _) | with_reducible (refine BelowX.drew ?_))) (by first | omega | (simp <;> omega)) bB
  clear hBs
  replace hk := hk_
  clear hk_
  clear z9 z10 z11 z12 z13 z14 z15 z16
  clear bB
  generalize w1.heap.size = q at *
  have hwv : IntKind.u8.wrap (v : Int) = (v : Int) := by rw [IntKind.wrap_u8]; omega
  obtain ⟨a2, bd2, hst, hS⟩ := HS.out bd
  rw [hst] at hk
  have HSS := Lib.hid hS
  clear hS
  go_wp2_with fail
  go_ret
  exact ⟨_, a2, bd2, rfl, HSS.out, hk, hB⟩
set_option maxRecDepth 100000 in
set_option maxHeartbeats 1600000 in
theorem eight_any (g : Nat) (A : Option Addr) (n c a : Nat) (bd : Bool) (l : List UInt8) (w : World) (hk : Blk w g 178 #[.slice A n c, .int .i64 (a : Int), .bool bd]) (hr : RdB w g A n l) (hn : l.length ≤ 200000) (ha : a ≤ l.length) :
    Calls Try.prog 90 #[.pointer (some ⟨g, 0, none⟩)] w fun e w' => ∃ (v a' : Nat) (bd' : Bool), e = .returned (.int .u64 ((8 * v : Nat) : Int)) ∧ NmS l a bd 2305843009213693951 v a' bd' ∧ Blk w' g 178 #[.slice A n c, .int .i64 (a' : Int), .bool bd'] ∧ BelowX w.heap.size g w w' := by
  have hB := BelowX.refl w.heap.size g w
  go_enter Try.func90, Try.ntmps90
  go_wp2_with fail
  refine (number_any g A n c a bd l 2305843009213693951 (by omega) _ hk hr hn ha).mono ?_
  rintro e w1 ⟨v, a2, bd2, rfl, hS, hk_, b⟩
  have HSS := Lib.hid hS
  have hv := hS.1
  clear hS
  have hwv : IntKind.u64.wrap (8 * (v : Int)) = ((8 * v : Nat) : Int) := by rw [IntKind.wrap_u64]; omega
  go_wp2_with fail
  go_ret
  exact ⟨v, a2, bd2, rfl, HSS.out, hk_, b⟩

end Go.Proofs.Ytldaijkcmnnjpaa
