/- Contracts and laws of a chapter that its statement of names leans on. Each states its conditions. -/
import Derived.Test.YtldaijkcmnnjpaaTab5
import Derived.Test.YtldaijkcmnnjpaaTab7
namespace Go.Proofs.Ytldaijkcmnnjpaa
open Go.RowKit Wire
set_option linter.unusedVariables false
/-- Reads pairs of minimal numbers: the error, the pairs, the place behind them. -/
def rwR (l : List UInt8) : Nat → Nat → Int × List (Nat × Nat) × Nat
  | 0, a => (0, [], a)
  | k + 1, a =>
    if (uvR l (a : Int)).1 ≠ 0 then ((uvR l (a : Int)).1, [], 0)
    else if (uvR l ((a + (uvR l (a : Int)).2.2 : Nat) : Int)).1 ≠ 0 then ((uvR l ((a + (uvR l (a : Int)).2.2 : Nat) : Int)).1, [], 0)
    else
      ((rwR l k (a + (uvR l (a : Int)).2.2 + (uvR l ((a + (uvR l (a : Int)).2.2 : Nat) : Int)).2.2)).1,
        ((uvR l (a : Int)).2.1, (uvR l ((a + (uvR l (a : Int)).2.2 : Nat) : Int)).2.1) :: (rwR l k (a + (uvR l (a : Int)).2.2 + (uvR l ((a + (uvR l (a : Int)).2.2 : Nat) : Int)).2.2)).2.1,
        (rwR l k (a + (uvR l (a : Int)).2.2 + (uvR l ((a + (uvR l (a : Int)).2.2 : Nat) : Int)).2.2)).2.2)
theorem rw_bad1 {l : List UInt8} {k a : Nat} (h : (uvR l (a : Int)).1 ≠ 0) : (rwR l (k + 1) a).1 = (uvR l (a : Int)).1 := by rw [rwR, if_pos h]
theorem rw_bad2 {l : List UInt8} {k a u : Nat} (h : (uvR l (a : Int)).1 = 0) (hu : (uvR l (a : Int)).2.2 = u) (h2 : (uvR l ((a + u : Nat) : Int)).1 ≠ 0) : (rwR l (k + 1) a).1 = (uvR l ((a + u : Nat) : Int)).1 := by
  subst hu; rw [rwR, if_neg (by simpa using h), if_pos h2]
theorem rw_ok {l : List UInt8} {k a u x u2 v : Nat} (h : uvR l (a : Int) = (0, x, u)) (h2 : uvR l ((a + u : Nat) : Int) = (0, v, u2)) : rwR l (k + 1) a = ((rwR l k (a + u + u2)).1, (x, v) :: (rwR l k (a + u + u2)).2.1, (rwR l k (a + u + u2)).2.2) := by
  rw [rwR, h]; simp only [ne_eq, not_true, if_false]; rw [h2]; simp
/-- The runs of pairs, each instruction at most so much behind the one before. -/
def smP : Nat → List (Nat × Nat) → List (Int × Nat)
  | _, [] => []
  | s, p :: r => (((s + min p.1 200 : Nat) : Int), p.2) :: smP (s + min p.1 200) r
def dcW (l : List UInt8) (a : Int) : Int × List (Nat × Nat) × Nat := rwR l (uvR l a).2.1 (a.toNat + (uvR l a).2.2)
/-- What Decode answers: the error, the runs, the cursor. -/
def dcE (l : List UInt8) (a k : Int) : Int := if ckB l.length a then (if 1 ≤ k ∧ k ≤ 200 then (if uvE l a k.toNat ≠ 0 then uvE l a k.toNat else if (dcW l a).1 ≠ 0 then (dcW l a).1 else if fnB (smP 0 (dcW l a).2.1) k then 0 else 12) else 2) else 8
def dcL (l : List UInt8) (a k : Int) : List (Int × Nat) := if dcE l a k = 0 then smP 0 (dcW l a).2.1 else []
def dcC (A : Option Addr) (n c : Nat) (l : List UInt8) (a k : Int) : Value := if dcE l a k = 0 then cur A n c ((dcW l a).2.2 : Nat) else cur none 0 0 0
theorem dc_bad {l : List UInt8} {a k e : Int} (A : Option Addr) (n c : Nat) (h : dcE l a k = e) (he : e ≠ 0) : dcL l a k = [] ∧ dcC A n c l a k = cur none 0 0 0 := by
  subst h; simp [dcL, dcC, he]
theorem smP_fit {r : List (Nat × Nat)} : ∀ {s : Nat}, (∀ p ∈ r, p.2 < 18446744073709551616) → s + 200 * r.length ≤ 1000000000 → ∀ q ∈ smP s r, fitR q := by
  induction r with
  | nil => intro s _ _ q hq; simp [smP] at hq
  | cons p r ih =>
    intro s hv hs q hq
    simp only [List.length_cons] at hs
    rw [smP] at hq
    rcases List.mem_cons.1 hq with rfl | hq
    · exact ⟨⟨by show (-9223372036854775808 : Int) ≤ ((s + min p.1 200 : Nat) : Int); omega, by show ((s + min p.1 200 : Nat) : Int) ≤ 9223372036854775807; omega⟩, hv p (by simp)⟩
    · exact ih (fun x hx => hv x (by simp [hx])) (by omega) q hq
/-- Where the runs of pairs end. -/
def enP : Nat → List (Nat × Nat) → Nat
  | s, [] => s
  | s, p :: r => enP (s + min p.1 200) r
theorem smP_snoc (s : Nat) (x : List (Nat × Nat)) (p : Nat × Nat) : smP s (x ++ [p]) = smP s x ++ [(((enP s x + min p.1 200 : Nat) : Int), p.2)] := by
  induction x generalizing s with
  | nil => rfl
  | cons q x ih => rw [List.cons_append, smP, ih, smP, enP]; rfl
theorem enP_snoc (s : Nat) (x : List (Nat × Nat)) (p : Nat × Nat) : enP s (x ++ [p]) = enP s x + min p.1 200 := by
  induction x generalizing s with
  | nil => rfl
  | cons q x ih => rw [List.cons_append, enP, ih, enP]
theorem enP_le (s : Nat) (x : List (Nat × Nat)) : enP s x ≤ s + 200 * x.length := by
  induction x generalizing s with
  | nil => simp [enP]
  | cons q x ih => have := ih (s + min q.1 200); simp only [enP, List.length_cons]; omega
theorem smP_len (s : Nat) (x : List (Nat × Nat)) : (smP s x).length = x.length := by
  induction x generalizing s with
  | nil => rfl
  | cons q x ih => simp [smP, ih]
theorem uv64_bad {l : List UInt8} {q m : Nat} (hc : ckB l.length (q : Int) = true) (h : (uvR l (q : Int)).1 ≠ 0) : uvE l (q : Int) m = (uvR l (q : Int)).1 := by
  unfold uvE; rw [if_pos hc, if_pos h]
theorem uv64_ok {l : List UInt8} {q x u : Nat} (A : Option Addr) (n c : Nat) (hc : ckB l.length (q : Int) = true) (h : uvR l (q : Int) = (0, x, u)) :
    (uvE l (q : Int) 18446744073709551615 = 0 ∧ uvN l (q : Int) 18446744073709551615 = x ∧ uvC A n c l (q : Int) 18446744073709551615 = cur A n c ((q + u : Nat) : Int)) ∧ x < 18446744073709551616 ∧ q + u ≤ l.length := by
  have h1 : (uvR l (q : Int)).1 = 0 := by rw [h]
  obtain ⟨g1, g2, g3, _⟩ := uvR_le h1
  rw [h] at g1 g3
  rw [Int.toNat_natCast] at g3
  have he : uvE l (q : Int) 18446744073709551615 = 0 := by
    unfold uvE
    rw [if_pos hc, if_neg (by simp [h1]), h]
    have : ¬ 18446744073709551615 < x := by simp at g1; omega
    simp [this]
  obtain ⟨e1, e2⟩ := uv_ok A n c he
  rw [h] at e1 e2
  exact ⟨⟨he, e1, by rw [e2]; simp⟩, g1, g3⟩
theorem reads_two_at {w : World} {g : Nat} (hg : w.heap.size = g) (u v : Value) (e : TypeId) : Reads (w.alloc (.cells #[u, v] e)) (w.alloc (.cells #[u, v] e)).heap.size 2 (some ⟨g, 0, none⟩) 1 [u, v] := by
  subst hg; exact reads_two w u v e
theorem curT8 : AggT Try.prog 70 2 := ⟨⟨_, Try.underlying70, rfl⟩, by kernel_rfl⟩
/-- What Decode does. -/
def DcP (w : World) (A : Option Addr) (n c : Nat) (l : List UInt8) (a k : Int) (e : Ending) (w' : World) : Prop :=
  ∃ A' c', e = .returned (.tuple #[dcC A n c l a k, .slice A' (dcL l a k).length c', .int .i64 (dcE l a k)]) ∧ w'.ownsRow w.heap.size 57 2 (.slice A' (dcL l a k).length c') (dcL l a k).length (rnC (dcL l a k)) ∧ Below w.heap.size w w'
set_option maxRecDepth 100000 in
set_option maxHeartbeats 1600000 in
theorem fail8_any (x : Int) (w : World) :
    Calls Try.prog 69 #[.int .i64 x] w fun e w' => e = .returned (.tuple #[cur none 0 0 0, .slice none 0 0, .int .i64 x]) ∧ Below w.heap.size w w' := by
  have hB := (Below.refl w.heap.size w).alloc (Nat.le_refl _) (.cells #[.slice none 0 0, .int .i64 0] 70)
  have hz := Blk.new w 70 #[.slice none 0 0, .int .i64 0]
  go_enter Try.func69, Try.ntmps69
  go_wp2_with fail
  refine ret_c2 rfl curT8 rfl (by repeat (first | with_reducible exact hz | with_reducible (apply Blk.set_) | with_reducible (apply Blk.far; case hp => (simp <;> omega)) | with_reducible (apply Blk.alloc) | with_reducible (apply Blk.drew))) (by rfl) ?_
  exact ⟨rfl, (by have hs_ := hB.size; repeat (first | with_reducible exact hB | with_reducible (refine Below.setCell ?_ (by simp <;> omega) _) | with_reducible (refine Below.alloc ?_ (by simp <;> omega) _) | with_reducible (refine Below.drew ?_)))⟩
set_option maxRecDepth 100000 in
set_option maxHeartbeats 8000000 in
theorem decode8_any (A : Option Addr) (n c : Nat) (l : List UInt8) (a k : Int) (w : World) (hr : Rb w A n l) (hc : n ≤ c ∧ c ≤ 9223372036854775807) (ha : -9223372036854775808 ≤ a ∧ a ≤ 9223372036854775807) (hk : -9223372036854775808 ≤ k ∧ k ≤ 9223372036854775807) :
    Calls Try.prog 29 #[cur A n c a, .int .i64 k] w fun e w' => DcP w A n c l a k e w' := by
  have HL := Lib.hid hr.len8
  have HR := Lib.hid hr
  have hB : Below w.heap.size w ((w.alloc (.cells #[.slice A n c, .int .i64 a] 70)).alloc (.cells #[.slice none 0 0, .int .i64 0] 70)) := Below.alloc (Below.alloc (Below.refl w.heap.size w) (Nat.le_refl _) (.cells #[.slice A n c, .int .i64 a] 70)) (by simp) (.cells #[.slice none 0 0, .int .i64 0] 70)
  have hc0 := (Blk.new w 70 #[.slice A n c, .int .i64 a]).alloc (.cells #[.slice none 0 0, .int .i64 0] 70)
  have hz := Blk.new (w.alloc (.cells #[.slice A n c, .int .i64 a] 70)) 70 #[.slice none 0 0, .int .i64 0]
  rw [alloc_size] at hz
  clear hr
  have hkn : n ≤ 9223372036854775807 := by omega
  cases hck : ckB n a
  · have HC := Lib.hid (show ckE n a = 8 from by simp [ckE, hck])
    have HE := Lib.hid (show dcE l a k = 8 from by unfold dcE; rw [HL.out, hck]; rfl)
    have HV := Lib.hid (dc_bad A n c HE.out (by decide))
    clear hck
    go_enter Try.func29, Try.ntmps29
    have z1 : ((w.alloc (.cells #[.slice A n c, .int .i64 a] 70)).alloc (.cells #[.slice none 0 0, .int .i64 0] 70)).cell? ⟨w.heap.size, 0, none⟩ = some (.slice A n c) := (hc0.cell 0).trans rfl
    have z2 : ((w.alloc (.cells #[.slice A n c, .int .i64 a] 70)).alloc (.cells #[.slice none 0 0, .int .i64 0] 70)).cell? ⟨w.heap.size, 1, none⟩ = some (.int .i64 a) := (hc0.cell 1).trans rfl
    have z3 : ((w.alloc (.cells #[.slice A n c, .int .i64 a] 70)).alloc (.cells #[.slice none 0 0, .int .i64 0] 70)).cell? ⟨(w.heap.size + 1), 0, none⟩ = some (.slice none 0 0) := (hz.cell 0).trans rfl
    have z4 : ((w.alloc (.cells #[.slice A n c, .int .i64 a] 70)).alloc (.cells #[.slice none 0 0, .int .i64 0] 70)).cell? ⟨(w.heap.size + 1), 1, none⟩ = some (.int .i64 0) := (hz.cell 1).trans rfl
    go_wp2_with fail
    clear z1 z2 z3 z4
    refine (left_any A n c a _ ha).mono ?_
    rintro e w1 ⟨rfl, b⟩
    rw [HC.out]
    replace hc0 := hc0.below b hc0.lt
    replace hz := hz.below b hz.lt
    replace hB := hB.trans (b.mono hB.size)
    clear b
    have z5 : w1.cell? ⟨w.heap.size, 0, none⟩ = some (.slice A n c) := (hc0.cell 0).trans rfl
    have z6 : w1.cell? ⟨w.heap.size, 1, none⟩ = some (.int .i64 a) := (hc0.cell 1).trans rfl
    have z7 : w1.cell? ⟨(w.heap.size + 1), 0, none⟩ = some (.slice none 0 0) := (hz.cell 0).trans rfl
    have z8 : w1.cell? ⟨(w.heap.size + 1), 1, none⟩ = some (.int .i64 0) := (hz.cell 1).trans rfl
    go_wp2_with fail
    clear z5 z6 z7 z8
    refine (fail8_any 8 _).mono ?_
    rintro e w3 ⟨rfl, b⟩
    replace hc0 := hc0.below b hc0.lt
    replace hz := hz.below b hz.lt
    replace hB := hB.trans (b.mono hB.size)
    clear b
    have z9 : w3.cell? ⟨(w.heap.size + 1), 0, none⟩ = some (.slice none 0 0) := (hz.cell 0).trans rfl
    have z10 := hz.frozen 0
    have z11 : w3.cell? ⟨(w.heap.size + 1), 1, none⟩ = some (.int .i64 0) := (hz.cell 1).trans rfl
    have z12 := hz.frozen 1
    go_wp2_with fail
    refine ret_c2 rfl curT8 rfl (by repeat (first | with_reducible exact hz | with_reducible (apply Blk.set_) | with_reducible (apply Blk.far; case hp => (simp <;> omega)) | with_reducible (apply Blk.alloc) | with_reducible (apply Blk.drew))) (by rfl) ?_
    unfold DcP
    exact ⟨none, 0, by rw [HV.out.1, HV.out.2, HE.out]; rfl, by rw [HV.out.1]; exact World.ownsRow_nil _ _ _ _, (by have hs_ := hB.size; repeat (first | with_reducible exact hB | with_reducible (refine Below.setCell ?_ (by simp <;> omega) _) | with_reducible (refine Below.alloc ?_ (by simp <;> omega) _) | with_reducible (refine Below.drew ?_)))⟩
  obtain ⟨g1, g2, g3⟩ := ck_ok hck
  have HC := Lib.hid (show ckE n a = 0 from by simp [ckE, hck])
  have HCK := Lib.hid (show ckB l.length a = true from by rw [HL.out]; exact hck)
  clear hck
  by_cases hk2 : 1 ≤ k ∧ k ≤ 200
  rotate_left
  · have HK := Lib.hid (show cnE k = 2 from by rw [cnE, if_neg hk2])
    have HE := Lib.hid (show dcE l a k = 2 from by unfold dcE; rw [if_pos HCK.out, if_neg hk2])
    have HV := Lib.hid (dc_bad A n c HE.out (by decide))
    clear hk2
    go_enter Try.func29, Try.ntmps29
    have z1 : ((w.alloc (.cells #[.slice A n c, .int .i64 a] 70)).alloc (.cells #[.slice none 0 0, .int .i64 0] 70)).cell? ⟨w.heap.size, 0, none⟩ = some (.slice A n c) := (hc0.cell 0).trans rfl
    have z2 : ((w.alloc (.cells #[.slice A n c, .int .i64 a] 70)).alloc (.cells #[.slice none 0 0, .int .i64 0] 70)).cell? ⟨w.heap.size, 1, none⟩ = some (.int .i64 a) := (hc0.cell 1).trans rfl
    have z3 : ((w.alloc (.cells #[.slice A n c, .int .i64 a] 70)).alloc (.cells #[.slice none 0 0, .int .i64 0] 70)).cell? ⟨(w.heap.size + 1), 0, none⟩ = some (.slice none 0 0) := (hz.cell 0).trans rfl
    have z4 : ((w.alloc (.cells #[.slice A n c, .int .i64 a] 70)).alloc (.cells #[.slice none 0 0, .int .i64 0] 70)).cell? ⟨(w.heap.size + 1), 1, none⟩ = some (.int .i64 0) := (hz.cell 1).trans rfl
    go_wp2_with fail
    clear z1 z2 z3 z4
    refine (left_any A n c a _ ha).mono ?_
    rintro e w1 ⟨rfl, b⟩
    rw [HC.out]
    replace hc0 := hc0.below b hc0.lt
    replace hz := hz.below b hz.lt
    replace hB := hB.trans (b.mono hB.size)
    clear b
    have z5 : w1.cell? ⟨w.heap.size, 0, none⟩ = some (.slice A n c) := (hc0.cell 0).trans rfl
    have z6 : w1.cell? ⟨w.heap.size, 1, none⟩ = some (.int .i64 a) := (hc0.cell 1).trans rfl
    have z7 : w1.cell? ⟨(w.heap.size + 1), 0, none⟩ = some (.slice none 0 0) := (hz.cell 0).trans rfl
    have z8 : w1.cell? ⟨(w.heap.size + 1), 1, none⟩ = some (.int .i64 0) := (hz.cell 1).trans rfl
    go_wp2_with fail
    refine (counted_any k _).mono ?_
    rintro e wq ⟨rfl, rfl⟩
    rw [HK.out]
    have z9 : w1.cell? ⟨w.heap.size, 0, none⟩ = some (.slice A n c) := (hc0.cell 0).trans rfl
    have z10 : w1.cell? ⟨w.heap.size, 1, none⟩ = some (.int .i64 a) := (hc0.cell 1).trans rfl
    have z11 : w1.cell? ⟨(w.heap.size + 1), 0, none⟩ = some (.slice none 0 0) := (hz.cell 0).trans rfl
    have z12 : w1.cell? ⟨(w.heap.size + 1), 1, none⟩ = some (.int .i64 0) := (hz.cell 1).trans rfl
    go_wp2_with fail
    clear z5 z6 z7 z8 z9 z10 z11 z12
    refine (fail8_any 2 _).mono ?_
    rintro e w3 ⟨rfl, b⟩
    replace hc0 := hc0.below b hc0.lt
    replace hz := hz.below b hz.lt
    replace hB := hB.trans (b.mono hB.size)
    clear b
    have z13 : w3.cell? ⟨(w.heap.size + 1), 0, none⟩ = some (.slice none 0 0) := (hz.cell 0).trans rfl
    have z14 := hz.frozen 0
    have z15 : w3.cell? ⟨(w.heap.size + 1), 1, none⟩ = some (.int .i64 0) := (hz.cell 1).trans rfl
    have z16 := hz.frozen 1
    go_wp2_with fail
    refine ret_c2 rfl curT8 rfl (by repeat (first | with_reducible exact hz | with_reducible (apply Blk.set_) | with_reducible (apply Blk.far; case hp => (simp <;> omega)) | with_reducible (apply Blk.alloc) | with_reducible (apply Blk.drew))) (by rfl) ?_
    unfold DcP
    exact ⟨none, 0, by rw [HV.out.1, HV.out.2, HE.out]; rfl, by rw [HV.out.1]; exact World.ownsRow_nil _ _ _ _, (by have hs_ := hB.size; repeat (first | with_reducible exact hB | with_reducible (refine Below.setCell ?_ (by simp <;> omega) _) | with_reducible (refine Below.alloc ?_ (by simp <;> omega) _) | with_reducible (refine Below.drew ?_)))⟩
  obtain ⟨K, rfl⟩ : ∃ K : Nat, k = (K : Int) := ⟨k.toNat, by omega⟩
  obtain ⟨p, rfl⟩ : ∃ p : Nat, a = (p : Int) := ⟨a.toNat, by omega⟩
  have HK := Lib.hid (show cnE (K : Int) = 0 from by rw [cnE, if_pos hk2])
  have HU := Lib.hid (fun W (h : Rb W A n l) => unvary_any A n c l (p : Int) K W h hkn (by omega) ha)
  have hw0 : IntKind.u64.wrap (K : Int) = (K : Int) := by rw [IntKind.wrap_u64]; omega
  by_cases hx : uvE l (p : Int) K = 0
  rotate_left
  · obtain ⟨x, hxx⟩ : ∃ x, uvE l (p : Int) K = x := ⟨_, rfl⟩
    have HE := Lib.hid (show dcE l (p : Int) (K : Int) = x from by unfold dcE; rw [if_pos HCK.out, if_pos hk2, Int.toNat_natCast, if_pos hx, hxx])
    have HV := Lib.hid (dc_bad A n c HE.out (by rw [← hxx]; exact hx))
    have HUV := Lib.hid (uv_bad A n c hxx (by rw [← hxx]; exact hx))
    have d1 : (x != 0) = true := by rw [bne_iff_ne, ← hxx]; exact hx
    have HX := Lib.hid hxx
    clear hx hxx
    go_enter Try.func29, Try.ntmps29
    have z1 : ((w.alloc (.cells #[.slice A n c, .int .i64 (p : Int)] 70)).alloc (.cells #[.slice none 0 0, .int .i64 0] 70)).cell? ⟨w.heap.size, 0, none⟩ = some (.slice A n c) := (hc0.cell 0).trans rfl
    have z2 : ((w.alloc (.cells #[.slice A n c, .int .i64 (p : Int)] 70)).alloc (.cells #[.slice none 0 0, .int .i64 0] 70)).cell? ⟨w.heap.size, 1, none⟩ = some (.int .i64 (p : Int)) := (hc0.cell 1).trans rfl
    have z3 : ((w.alloc (.cells #[.slice A n c, .int .i64 (p : Int)] 70)).alloc (.cells #[.slice none 0 0, .int .i64 0] 70)).cell? ⟨(w.heap.size + 1), 0, none⟩ = some (.slice none 0 0) := (hz.cell 0).trans rfl
    have z4 : ((w.alloc (.cells #[.slice A n c, .int .i64 (p : Int)] 70)).alloc (.cells #[.slice none 0 0, .int .i64 0] 70)).cell? ⟨(w.heap.size + 1), 1, none⟩ = some (.int .i64 0) := (hz.cell 1).trans rfl
    go_wp2_with fail
    clear z1 z2 z3 z4
    refine (left_any A n c (p : Int) _ ha).mono ?_
    rintro e w1 ⟨rfl, b⟩
    rw [HC.out]
    replace hc0 := hc0.below b hc0.lt
    replace hz := hz.below b hz.lt
    replace hB := hB.trans (b.mono hB.size)
    clear b
    have z5 : w1.cell? ⟨w.heap.size, 0, none⟩ = some (.slice A n c) := (hc0.cell 0).trans rfl
    have z6 : w1.cell? ⟨w.heap.size, 1, none⟩ = some (.int .i64 (p : Int)) := (hc0.cell 1).trans rfl
    have z7 : w1.cell? ⟨(w.heap.size + 1), 0, none⟩ = some (.slice none 0 0) := (hz.cell 0).trans rfl
    have z8 : w1.cell? ⟨(w.heap.size + 1), 1, none⟩ = some (.int .i64 0) := (hz.cell 1).trans rfl
    go_wp2_with fail
    refine (counted_any (K : Int) _).mono ?_
    rintro e wq ⟨rfl, rfl⟩
    rw [HK.out]
    have z9 : w1.cell? ⟨w.heap.size, 0, none⟩ = some (.slice A n c) := (hc0.cell 0).trans rfl
    have z10 : w1.cell? ⟨w.heap.size, 1, none⟩ = some (.int .i64 (p : Int)) := (hc0.cell 1).trans rfl
    have z11 : w1.cell? ⟨(w.heap.size + 1), 0, none⟩ = some (.slice none 0 0) := (hz.cell 0).trans rfl
    have z12 : w1.cell? ⟨(w.heap.size + 1), 1, none⟩ = some (.int .i64 0) := (hz.cell 1).trans rfl
    go_wp2_with fail
    clear z5 z6 z7 z8 z9 z10 z11 z12
    refine (HU.out _ (HR.out.mv hB)).mono ?_
    rintro e w4 ⟨rfl, b⟩
    rw [HUV.out.1, HUV.out.2, HX.out]
    replace hc0 := hc0.below b hc0.lt
    replace hz := hz.below b hz.lt
    replace hB := hB.trans (b.mono hB.size)
    clear b
    have z13 : w4.cell? ⟨w.heap.size, 0, none⟩ = some (.slice A n c) := (hc0.cell 0).trans rfl
    have z14 := hc0.frozen 0
    have z15 : w4.cell? ⟨w.heap.size, 1, none⟩ = some (.int .i64 (p : Int)) := (hc0.cell 1).trans rfl
    have z16 := hc0.frozen 1
    have z17 : w4.cell? ⟨(w.heap.size + 1), 0, none⟩ = some (.slice none 0 0) := (hz.cell 0).trans rfl
    have z18 : w4.cell? ⟨(w.heap.size + 1), 1, none⟩ = some (.int .i64 0) := (hz.cell 1).trans rfl
    go_wp2_with fail
    clear z13 z14 z15 z16 z17 z18
    have hnew := ((hc0.set_ 0 (.slice none 0 0)).set_ 1 (.int .i64 0))
    replace hz := ((hz.far (p := ⟨w.heap.size, 0, none⟩) (by simp <;> omega) (.slice none 0 0)).far (p := ⟨w.heap.size, 1, none⟩) (by simp <;> omega) (.int .i64 0))
    replace hB := ((hB.setCell (p := ⟨w.heap.size, 0, none⟩) (by simp <;> omega) (.slice none 0 0)).setCell (p := ⟨w.heap.size, 1, none⟩) (by simp <;> omega) (.int .i64 0))
    replace hc0 := hnew
    clear hnew
    generalize ((w4.setCell ⟨w.heap.size, 0, none⟩ (.slice none 0 0)).setCell ⟨w.heap.size, 1, none⟩ (.int .i64 0)) = w5 at *
    refine (fail8_any x _).mono ?_
    rintro e w6 ⟨rfl, b⟩
    replace hc0 := hc0.below b hc0.lt
    replace hz := hz.below b hz.lt
    replace hB := hB.trans (b.mono hB.size)
    clear b
    have z19 : w6.cell? ⟨(w.heap.size + 1), 0, none⟩ = some (.slice none 0 0) := (hz.cell 0).trans rfl
    have z20 := hz.frozen 0
    have z21 : w6.cell? ⟨(w.heap.size + 1), 1, none⟩ = some (.int .i64 0) := (hz.cell 1).trans rfl
    have z22 := hz.frozen 1
    go_wp2_with fail
    refine ret_c2 rfl curT8 rfl (by repeat (first | with_reducible exact hz | with_reducible (apply Blk.set_) | with_reducible (apply Blk.far; case hp => (simp <;> omega)) | with_reducible (apply Blk.alloc) | with_reducible (apply Blk.drew))) (by rfl) ?_
    unfold DcP
    exact ⟨none, 0, by rw [HV.out.1, HV.out.2, HE.out]; rfl, by rw [HV.out.1]; exact World.ownsRow_nil _ _ _ _, (by have hs_ := hB.size; repeat (first | with_reducible exact hB | with_reducible (refine Below.setCell ?_ (by simp <;> omega) _) | with_reducible (refine Below.alloc ?_ (by simp <;> omega) _) | with_reducible (refine Below.drew ?_)))⟩
  have hz0 := uv_zero hx
  have hle := uvR_le hz0.2.1
  have hUC := (uv_ok A n c hx)
  obtain ⟨N, hN⟩ : ∃ N, (uvR l (p : Int)).2.1 = N := ⟨_, rfl⟩
  obtain ⟨u, hu⟩ : ∃ u, (uvR l (p : Int)).2.2 = u := ⟨_, rfl⟩
  obtain ⟨b, hb⟩ : ∃ b, p + u = b := ⟨_, rfl⟩
  have hbn : b ≤ n := by have := hle.2.2.1; rw [hu, Int.toNat_natCast, HL.out] at this; omega
  have hNK : N ≤ K := by have := hz0.2.2; omega
  have HUV := Lib.hid (show uvN l (p : Int) K = N ∧ uvC A n c l (p : Int) K = cur A n c (b : Int) from ⟨by rw [hUC.1, hN], by rw [hUC.2, hu]; congr 4; omega⟩)
  have HX := Lib.hid hx
  have HDW := Lib.hid (show dcW l (p : Int) = rwR l N b from by rw [dcW, hN, hu, Int.toNat_natCast, hb])
  have HDE := Lib.hid (show ∀ x, (rwR l N b).1 = x → x ≠ 0 → dcE l (p : Int) (K : Int) = x from fun x h1 h2 => by
    unfold dcE
    rw [if_pos HCK.out, if_pos hk2, Int.toNat_natCast, if_neg (by simp [HX.out]), HDW.out, h1, if_pos h2])
  have HDF := Lib.hid (show (rwR l N b).1 = 0 → dcE l (p : Int) (K : Int) = if fnB (smP 0 (rwR l N b).2.1) (K : Int) then 0 else 12 from fun h1 => by
    unfold dcE
    rw [if_pos HCK.out, if_pos hk2, Int.toNat_natCast, if_neg (by simp [HX.out]), HDW.out, if_neg (by simp [h1])])
  have HCQ := Lib.hid (show ∀ q : Nat, q ≤ n → ckB l.length (q : Int) = true from fun q hq => by rw [HL.out]; simp only [ckB, Bool.and_eq_true, decide_eq_true_eq]; omega)
  have HU6 := Lib.hid (fun (q : Nat) (hq : q ≤ n) W (h : Rb W A n l) => unvary_any A n c l (q : Int) 18446744073709551615 W h hkn (by omega) (by omega))
  clear hz0 hle hUC hN hu hb hx
  have hw1 : IntKind.i64.wrap (N : Int) = (N : Int) := by rw [IntKind.wrap_i64]; omega
  go_enter Try.func29, Try.ntmps29
  have z1 : ((w.alloc (.cells #[.slice A n c, .int .i64 (p : Int)] 70)).alloc (.cells #[.slice none 0 0, .int .i64 0] 70)).cell? ⟨w.heap.size, 0, none⟩ = some (.slice A n c) := (hc0.cell 0).trans rfl
  have z2 : ((w.alloc (.cells #[.slice A n c, .int .i64 (p : Int)] 70)).alloc (.cells #[.slice none 0 0, .int .i64 0] 70)).cell? ⟨w.heap.size, 1, none⟩ = some (.int .i64 (p : Int)) := (hc0.cell 1).trans rfl
  have z3 : ((w.alloc (.cells #[.slice A n c, .int .i64 (p : Int)] 70)).alloc (.cells #[.slice none 0 0, .int .i64 0] 70)).cell? ⟨(w.heap.size + 1), 0, none⟩ = some (.slice none 0 0) := (hz.cell 0).trans rfl
  have z4 : ((w.alloc (.cells #[.slice A n c, .int .i64 (p : Int)] 70)).alloc (.cells #[.slice none 0 0, .int .i64 0] 70)).cell? ⟨(w.heap.size + 1), 1, none⟩ = some (.int .i64 0) := (hz.cell 1).trans rfl
  go_wp2_with fail
  clear z1 z2 z3 z4
  refine (left_any A n c (p : Int) _ ha).mono ?_
  rintro e w1 ⟨rfl, b⟩
  rw [HC.out]
  replace hc0 := hc0.below b hc0.lt
  replace hz := hz.below b hz.lt
  replace hB := hB.trans (b.mono hB.size)
  clear b
  have z5 : w1.cell? ⟨w.heap.size, 0, none⟩ = some (.slice A n c) := (hc0.cell 0).trans rfl
  have z6 : w1.cell? ⟨w.heap.size, 1, none⟩ = some (.int .i64 (p : Int)) := (hc0.cell 1).trans rfl
  have z7 : w1.cell? ⟨(w.heap.size + 1), 0, none⟩ = some (.slice none 0 0) := (hz.cell 0).trans rfl
  have z8 : w1.cell? ⟨(w.heap.size + 1), 1, none⟩ = some (.int .i64 0) := (hz.cell 1).trans rfl
  go_wp2_with fail
  refine (counted_any (K : Int) _).mono ?_
  rintro e wq ⟨rfl, rfl⟩
  rw [HK.out]
  have z9 : w1.cell? ⟨w.heap.size, 0, none⟩ = some (.slice A n c) := (hc0.cell 0).trans rfl
  have z10 : w1.cell? ⟨w.heap.size, 1, none⟩ = some (.int .i64 (p : Int)) := (hc0.cell 1).trans rfl
  have z11 : w1.cell? ⟨(w.heap.size + 1), 0, none⟩ = some (.slice none 0 0) := (hz.cell 0).trans rfl
  have z12 : w1.cell? ⟨(w.heap.size + 1), 1, none⟩ = some (.int .i64 0) := (hz.cell 1).trans rfl
  go_wp2_with fail
  clear z5 z6 z7 z8 z9 z10 z11 z12
  refine (HU.out _ (HR.out.mv hB)).mono ?_
  rintro e w4 ⟨rfl, b⟩
  rw [HUV.out.1, HUV.out.2, HX.out]
  replace hc0 := hc0.below b hc0.lt
  replace hz := hz.below b hz.lt
  replace hB := hB.trans (b.mono hB.size)
  clear b
  have z13 : w4.cell? ⟨w.heap.size, 0, none⟩ = some (.slice A n c) := (hc0.cell 0).trans rfl
  have z14 := hc0.frozen 0
  have z15 : w4.cell? ⟨w.heap.size, 1, none⟩ = some (.int .i64 (p : Int)) := (hc0.cell 1).trans rfl
  have z16 := hc0.frozen 1
  have z17 : w4.cell? ⟨(w.heap.size + 1), 0, none⟩ = some (.slice none 0 0) := (hz.cell 0).trans rfl
  have z18 : w4.cell? ⟨(w.heap.size + 1), 1, none⟩ = some (.int .i64 0) := (hz.cell 1).trans rfl
  go_wp2_with fail
  clear z13 z14 z15 z16 z17 z18
  have hnew := ((hc0.set_ 0 (.slice A n c)).set_ 1 (.int .i64 (b : Int)))
  replace hz := ((hz.far (p := ⟨w.heap.size, 0, none⟩) (by simp <;> omega) (.slice A n c)).far (p := ⟨w.heap.size, 1, none⟩) (by simp <;> omega) (.int .i64 (b : Int)))
  replace hB := ((hB.setCell (p := ⟨w.heap.size, 0, none⟩) (by simp <;> omega) (.slice A n c)).setCell (p := ⟨w.heap.size, 1, none⟩) (by simp <;> omega) (.int .i64 (b : Int)))
  replace hc0 := hnew
  clear hnew
  generalize ((w4.setCell ⟨w.heap.size, 0, none⟩ (.slice A n c)).setCell ⟨w.heap.size, 1, none⟩ (.int .i64 (b : Int))) = w5 at *
  go_wp2_with fail
  go_loopw [13, 14, 58] (fun v s i wr => ∃ (j q : Nat) (done : List (Nat × Nat)) (A1 : Option Addr) (c1 : Nat), j ≤ N ∧ i = .int .i64 (j : Int) ∧ s = .int .i64 ((enP 0 done : Nat) : Int) ∧ v = .slice A1 j c1 ∧ done.length = j ∧ q ≤ n ∧ (rwR l N b).1 = (rwR l (N - j) q).1 ∧ ((rwR l N b).1 = 0 → (rwR l N b).2.1 = done ++ (rwR l (N - j) q).2.1 ∧ (rwR l N b).2.2 = (rwR l (N - j) q).2.2) ∧ (∀ p ∈ done, p.2 < 18446744073709551616) ∧
      Blk wr w.heap.size 70 #[.slice A n c, .int .i64 (q : Int)] ∧ Blk wr (w.heap.size + 1) 70 #[.slice none 0 0, .int .i64 0] ∧ wr.ownsRow w.heap.size 57 2 (.slice A1 j c1) j (rnC (smP 0 done)) ∧ Below w.heap.size w wr) (fun _ _ i _ => N - (intOf i).toNat)
  case atStart => exact ⟨0, b, [], none, 0, by omega, rfl, rfl, rfl, rfl, hbn, by simp, fun _ => by simp, by simp, hc0, hz, World.ownsRow_nil _ _ _ _, hB⟩
  case round =>
    obtain ⟨j, q, done, A1, c1, hj, rfl, rfl, rfl, hdl, hqn, hr1, hr2, hdv, hc0, hz, hown, hB⟩ := hrel
    have HD := Lib.hid hdl
    have HR1 := Lib.hid hr1
    have HR2 := Lib.hid hr2
    have HDV := Lib.hid hdv
    clear hdl hr1 hr2 hdv
    have hen := enP_le 0 done
    rw [HD.out] at hen
    by_cases hlt : j < N
    rotate_left
    · obtain rfl : j = N := by omega
      have HDD := Lib.hid (show (rwR l j b).1 = 0 ∧ (rwR l j b).2.1 = done ∧ (rwR l j b).2.2 = q from by
        have h1 := HR1.out
        rw [Nat.sub_self] at h1
        have h2 := HR2.out h1
        rw [Nat.sub_self] at h2
        exact ⟨h1, by rw [h2.1]; simp [rwR], by rw [h2.2]; rfl⟩)
      have HSL := Lib.hid (show (smP 0 done).length = j from by rw [smP_len, HD.out])
      have N1 := own_rdN hown (smP_fit HDV.out (by rw [HD.out]; omega))
      have hcap := own_cap hown
      unfold maxLen at hcap
      have z1 : wr.cell? ⟨w.heap.size, 0, none⟩ = some (.slice A n c) := (hc0.cell 0).trans rfl
      have z2 : wr.cell? ⟨w.heap.size, 1, none⟩ = some (.int .i64 (q : Int)) := (hc0.cell 1).trans rfl
      have z3 : wr.cell? ⟨(w.heap.size + 1), 0, none⟩ = some (.slice none 0 0) := (hz.cell 0).trans rfl
      have z4 : wr.cell? ⟨(w.heap.size + 1), 1, none⟩ = some (.int .i64 0) := (hz.cell 1).trans rfl
      go_wp2_with fail
      clear z1 z2 z3 z4
      refine (t_fine_any A1 j c1 (smP 0 done) (K : Int) _ N1 hcap).mono ?_
      rintro e w6 ⟨rfl, b⟩
      replace hown := own_call hown b
      replace hc0 := hc0.below b hc0.lt
      replace hz := hz.below b hz.lt
      replace hB := hB.trans (b.mono hB.size)
      clear b
      cases hf : fnB (smP 0 done) (K : Int)
      · have HE := Lib.hid (show dcE l (p : Int) (K : Int) = 12 from by rw [HDF.out HDD.out.1, HDD.out.2.1, hf]; rfl)
        have HV := Lib.hid (dc_bad A n c HE.out (by decide))
        clear hf
        have z1 : w6.cell? ⟨w.heap.size, 0, none⟩ = some (.slice A n c) := (hc0.cell 0).trans rfl
        have z2 : w6.cell? ⟨w.heap.size, 1, none⟩ = some (.int .i64 (q : Int)) := (hc0.cell 1).trans rfl
        have z3 : w6.cell? ⟨(w.heap.size + 1), 0, none⟩ = some (.slice none 0 0) := (hz.cell 0).trans rfl
        have z4 : w6.cell? ⟨(w.heap.size + 1), 1, none⟩ = some (.int .i64 0) := (hz.cell 1).trans rfl
        go_wp2_with fail
        clear hown
        clear z1 z2 z3 z4
        refine (fail8_any 12 _).mono ?_
        rintro e w8 ⟨rfl, b⟩
        replace hc0 := hc0.below b hc0.lt
        replace hz := hz.below b hz.lt
        replace hB := hB.trans (b.mono hB.size)
        clear b
        have z5 : w8.cell? ⟨(w.heap.size + 1), 0, none⟩ = some (.slice none 0 0) := (hz.cell 0).trans rfl
        have z6 := hz.frozen 0
        have z7 : w8.cell? ⟨(w.heap.size + 1), 1, none⟩ = some (.int .i64 0) := (hz.cell 1).trans rfl
        have z8 := hz.frozen 1
        go_wp2_with fail
        refine ret_c2 rfl curT8 rfl (by repeat (first | with_reducible exact hz | with_reducible (apply Blk.set_) | with_reducible (apply Blk.far; case hp => (simp <;> omega)) | with_reducible (apply Blk.alloc) | with_reducible (apply Blk.drew))) (by rfl) ?_
        unfold DcP
        exact ⟨none, 0, by rw [HV.out.1, HV.out.2, HE.out]; rfl, by rw [HV.out.1]; exact World.ownsRow_nil _ _ _ _, (by have hs_ := hB.size; repeat (first | with_reducible exact hB | with_reducible (refine Below.setCell ?_ (by simp <;> omega) _) | with_reducible (refine Below.alloc ?_ (by simp <;> omega) _) | with_reducible (refine Below.drew ?_)))⟩
      · have HE := Lib.hid (show dcE l (p : Int) (K : Int) = 0 from by rw [HDF.out HDD.out.1, HDD.out.2.1, hf]; rfl)
        have HVL := Lib.hid (show dcL l (p : Int) (K : Int) = smP 0 done from by rw [dcL, if_pos HE.out, HDW.out, HDD.out.2.1])
        have HVC := Lib.hid (show dcC A n c l (p : Int) (K : Int) = cur A n c (q : Int) from by rw [dcC, if_pos HE.out, HDW.out, HDD.out.2.2])
        clear hf
        have z1 : w6.cell? ⟨w.heap.size, 0, none⟩ = some (.slice A n c) := (hc0.cell 0).trans rfl
        have z2 : w6.cell? ⟨w.heap.size, 1, none⟩ = some (.int .i64 (q : Int)) := (hc0.cell 1).trans rfl
        have z3 : w6.cell? ⟨(w.heap.size + 1), 0, none⟩ = some (.slice none 0 0) := (hz.cell 0).trans rfl
        have z4 := hz.frozen 0
        have z5 : w6.cell? ⟨(w.heap.size + 1), 1, none⟩ = some (.int .i64 0) := (hz.cell 1).trans rfl
        have z6 := hz.frozen 1
        go_wp2_with fail
        refine ret_c2 rfl curT8 rfl (by repeat (first | with_reducible exact hz | with_reducible (apply Blk.set_) | with_reducible (apply Blk.far; case hp => (simp <;> omega)) | with_reducible (apply Blk.alloc) | with_reducible (apply Blk.drew))) (by rfl) ?_
        unfold DcP
        exact ⟨A1, c1, by rw [HVL.out, HVC.out, HE.out, HSL.out]; rfl, by rw [HVL.out, HSL.out]; exact own_setNe (own_setNe hown hz (by decide) 0 _) (hz.set_ 0 _) (by decide) 1 _, (by have hs_ := hB.size; repeat (first | with_reducible exact hB | with_reducible (refine Below.setCell ?_ (by simp <;> omega) _) | with_reducible (refine Below.alloc ?_ (by simp <;> omega) _) | with_reducible (refine Below.drew ?_)))⟩
    have hM : N - j = (N - (j + 1)) + 1 := by omega
    have H1 := Lib.hid (HU6.out q hqn)
    by_cases hx1 : (uvR l (q : Int)).1 = 0
    rotate_left
    · obtain ⟨x, hxx⟩ : ∃ x, (uvR l (q : Int)).1 = x := ⟨_, rfl⟩
      rw [hxx] at hx1
      have hE := uv64_bad (m := 18446744073709551615) (HCQ.out q hqn) (by rw [hxx]; exact hx1)
      rw [hxx] at hE
      have HE := Lib.hid (HDE.out x (by rw [HR1.out, hM, rw_bad1 (by rw [hxx]; exact hx1), hxx]) hx1)
      have HV := Lib.hid (dc_bad A n c HE.out hx1)
      have HUV1 := Lib.hid (uv_bad A n c hE hx1)
      have HX1 := Lib.hid hE
      have d1 : (x != 0) = true := by rw [bne_iff_ne]; exact hx1
      clear hxx hE hx1 hM
      have z1 : wr.cell? ⟨w.heap.size, 0, none⟩ = some (.slice A n c) := (hc0.cell 0).trans rfl
      have z2 : wr.cell? ⟨w.heap.size, 1, none⟩ = some (.int .i64 (q : Int)) := (hc0.cell 1).trans rfl
      have z3 : wr.cell? ⟨(w.heap.size + 1), 0, none⟩ = some (.slice none 0 0) := (hz.cell 0).trans rfl
      have z4 : wr.cell? ⟨(w.heap.size + 1), 1, none⟩ = some (.int .i64 0) := (hz.cell 1).trans rfl
      go_wp2_with fail
      clear z1 z2 z3 z4
      refine (H1.out _ (HR.out.mv hB)).mono ?_
      rintro e w6 ⟨rfl, b⟩
      rw [HUV1.out.1, HUV1.out.2, HX1.out]
      replace hown := own_call hown b
      replace hc0 := hc0.below b hc0.lt
      replace hz := hz.below b hz.lt
      replace hB := hB.trans (b.mono hB.size)
      clear b
      have z5 : w6.cell? ⟨w.heap.size, 0, none⟩ = some (.slice A n c) := (hc0.cell 0).trans rfl
      have z6 := hc0.frozen 0
      have z7 : w6.cell? ⟨w.heap.size, 1, none⟩ = some (.int .i64 (q : Int)) := (hc0.cell 1).trans rfl
      have z8 := hc0.frozen 1
      have z9 : w6.cell? ⟨(w.heap.size + 1), 0, none⟩ = some (.slice none 0 0) := (hz.cell 0).trans rfl
      have z10 : w6.cell? ⟨(w.heap.size + 1), 1, none⟩ = some (.int .i64 0) := (hz.cell 1).trans rfl
      go_wp2_with fail
      clear z5 z6 z7 z8 z9 z10
      replace hown := own_setNe hown hc0 (by decide) 0 (.slice none 0 0)
      replace hown := own_setNe hown (hc0.set_ 0 (.slice none 0 0)) (by decide) 1 (.int .i64 0)
      have hnew := ((hc0.set_ 0 (.slice none 0 0)).set_ 1 (.int .i64 0))
      replace hz := ((hz.far (p := ⟨w.heap.size, 0, none⟩) (by simp <;> omega) (.slice none 0 0)).far (p := ⟨w.heap.size, 1, none⟩) (by simp <;> omega) (.int .i64 0))
      replace hB := ((hB.setCell (p := ⟨w.heap.size, 0, none⟩) (by simp <;> omega) (.slice none 0 0)).setCell (p := ⟨w.heap.size, 1, none⟩) (by simp <;> omega) (.int .i64 0))
      replace hc0 := hnew
      clear hnew
      generalize ((w6.setCell ⟨w.heap.size, 0, none⟩ (.slice none 0 0)).setCell ⟨w.heap.size, 1, none⟩ (.int .i64 0)) = w7 at *
      clear hown
      refine (fail8_any x _).mono ?_
      rintro e w8 ⟨rfl, b⟩
      replace hc0 := hc0.below b hc0.lt
      replace hz := hz.below b hz.lt
      replace hB := hB.trans (b.mono hB.size)
      clear b
      have z11 : w8.cell? ⟨(w.heap.size + 1), 0, none⟩ = some (.slice none 0 0) := (hz.cell 0).trans rfl
      have z12 := hz.frozen 0
      have z13 : w8.cell? ⟨(w.heap.size + 1), 1, none⟩ = some (.int .i64 0) := (hz.cell 1).trans rfl
      have z14 := hz.frozen 1
      go_wp2_with fail
      refine ret_c2 rfl curT8 rfl (by repeat (first | with_reducible exact hz | with_reducible (apply Blk.set_) | with_reducible (apply Blk.far; case hp => (simp <;> omega)) | with_reducible (apply Blk.alloc) | with_reducible (apply Blk.drew))) (by rfl) ?_
      unfold DcP
      exact ⟨none, 0, by rw [HV.out.1, HV.out.2, HE.out]; rfl, by rw [HV.out.1]; exact World.ownsRow_nil _ _ _ _, (by have hs_ := hB.size; repeat (first | with_reducible exact hB | with_reducible (refine Below.setCell ?_ (by simp <;> omega) _) | with_reducible (refine Below.alloc ?_ (by simp <;> omega) _) | with_reducible (refine Below.drew ?_)))⟩
    obtain ⟨x, hxx⟩ : ∃ x, (uvR l (q : Int)).2.1 = x := ⟨_, rfl⟩
    obtain ⟨u1, huu⟩ : ∃ u1, (uvR l (q : Int)).2.2 = u1 := ⟨_, rfl⟩
    have hR : uvR l (q : Int) = (0, x, u1) := by rw [← hx1, ← hxx, ← huu]
    obtain ⟨g1, hxl, hqu⟩ := uv64_ok A n c (HCQ.out q hqn) hR
    obtain ⟨q2, hq2⟩ : ∃ q2, q + u1 = q2 := ⟨_, rfl⟩
    rw [hq2] at g1
    have hq2n : q2 ≤ n := by rw [HL.out] at hqu; omega
    have HO1 := Lib.hid (show uvC A n c l (q : Int) 18446744073709551615 = cur A n c (q2 : Int) ∧ uvN l (q : Int) 18446744073709551615 = x ∧ uvE l (q : Int) 18446744073709551615 = 0 from ⟨g1.2.2, g1.2.1, g1.1⟩)
    have H2 := Lib.hid (HU6.out q2 hq2n)
    have HRQ := Lib.hid hR
    have HQ2 := Lib.hid hq2
    have HX0 := Lib.hid hx1
    clear hx1 hxx g1 hqu
    by_cases hx2 : (uvR l (q2 : Int)).1 = 0
    rotate_left
    · obtain ⟨y, hyy⟩ : ∃ y, (uvR l (q2 : Int)).1 = y := ⟨_, rfl⟩
      rw [hyy] at hx2
      have hE := uv64_bad (m := 18446744073709551615) (HCQ.out q2 hq2n) (by rw [hyy]; exact hx2)
      rw [hyy] at hE
      have HE := Lib.hid (HDE.out y (by rw [HR1.out, hM, rw_bad2 HX0.out huu (by rw [hq2, hyy]; exact hx2), hq2, hyy]) hx2)
      have HV := Lib.hid (dc_bad A n c HE.out hx2)
      have HUV2 := Lib.hid (uv_bad A n c hE hx2)
      have HX2 := Lib.hid hE
      have d1 : (y != 0) = true := by rw [bne_iff_ne]; exact hx2
      clear hyy hE hx2 hM huu hR hq2
      have z1 : wr.cell? ⟨w.heap.size, 0, none⟩ = some (.slice A n c) := (hc0.cell 0).trans rfl
      have z2 : wr.cell? ⟨w.heap.size, 1, none⟩ = some (.int .i64 (q : Int)) := (hc0.cell 1).trans rfl
      have z3 : wr.cell? ⟨(w.heap.size + 1), 0, none⟩ = some (.slice none 0 0) := (hz.cell 0).trans rfl
      have z4 : wr.cell? ⟨(w.heap.size + 1), 1, none⟩ = some (.int .i64 0) := (hz.cell 1).trans rfl
      go_wp2_with fail
      clear z1 z2 z3 z4
      refine (H1.out _ (HR.out.mv hB)).mono ?_
      rintro e w6 ⟨rfl, b⟩
      rw [HO1.out.1, HO1.out.2.1, HO1.out.2.2]
      replace hown := own_call hown b
      replace hc0 := hc0.below b hc0.lt
      replace hz := hz.below b hz.lt
      replace hB := hB.trans (b.mono hB.size)
      clear b
      have z5 : w6.cell? ⟨w.heap.size, 0, none⟩ = some (.slice A n c) := (hc0.cell 0).trans rfl
      have z6 := hc0.frozen 0
      have z7 : w6.cell? ⟨w.heap.size, 1, none⟩ = some (.int .i64 (q : Int)) := (hc0.cell 1).trans rfl
      have z8 := hc0.frozen 1
      have z9 : w6.cell? ⟨(w.heap.size + 1), 0, none⟩ = some (.slice none 0 0) := (hz.cell 0).trans rfl
      have z10 : w6.cell? ⟨(w.heap.size + 1), 1, none⟩ = some (.int .i64 0) := (hz.cell 1).trans rfl
      go_wp2_with fail
      clear z5 z6 z7 z8 z9 z10
      replace hown := own_setNe hown hc0 (by decide) 0 (.slice A n c)
      replace hown := own_setNe hown (hc0.set_ 0 (.slice A n c)) (by decide) 1 (.int .i64 (q2 : Int))
      have hnew := ((hc0.set_ 0 (.slice A n c)).set_ 1 (.int .i64 (q2 : Int)))
      replace hz := ((hz.far (p := ⟨w.heap.size, 0, none⟩) (by simp <;> omega) (.slice A n c)).far (p := ⟨w.heap.size, 1, none⟩) (by simp <;> omega) (.int .i64 (q2 : Int)))
      replace hB := ((hB.setCell (p := ⟨w.heap.size, 0, none⟩) (by simp <;> omega) (.slice A n c)).setCell (p := ⟨w.heap.size, 1, none⟩) (by simp <;> omega) (.int .i64 (q2 : Int)))
      replace hc0 := hnew
      clear hnew
      generalize ((w6.setCell ⟨w.heap.size, 0, none⟩ (.slice A n c)).setCell ⟨w.heap.size, 1, none⟩ (.int .i64 (q2 : Int))) = w7 at *
      have z11 : w7.cell? ⟨w.heap.size, 0, none⟩ = some (.slice A n c) := (hc0.cell 0).trans rfl
      have z12 : w7.cell? ⟨w.heap.size, 1, none⟩ = some (.int .i64 (q2 : Int)) := (hc0.cell 1).trans rfl
      have z13 : w7.cell? ⟨(w.heap.size + 1), 0, none⟩ = some (.slice none 0 0) := (hz.cell 0).trans rfl
      have z14 : w7.cell? ⟨(w.heap.size + 1), 1, none⟩ = some (.int .i64 0) := (hz.cell 1).trans rfl
      go_wp2_with fail
      clear z11 z12 z13 z14
      refine (H2.out _ (HR.out.mv hB)).mono ?_
      rintro e w8 ⟨rfl, b⟩
      rw [HUV2.out.1, HUV2.out.2, HX2.out]
      replace hown := own_call hown b
      replace hc0 := hc0.below b hc0.lt
      replace hz := hz.below b hz.lt
      replace hB := hB.trans (b.mono hB.size)
      clear b
      have z15 : w8.cell? ⟨w.heap.size, 0, none⟩ = some (.slice A n c) := (hc0.cell 0).trans rfl
      have z16 := hc0.frozen 0
      have z17 : w8.cell? ⟨w.heap.size, 1, none⟩ = some (.int .i64 (q2 : Int)) := (hc0.cell 1).trans rfl
      have z18 := hc0.frozen 1
      have z19 : w8.cell? ⟨(w.heap.size + 1), 0, none⟩ = some (.slice none 0 0) := (hz.cell 0).trans rfl
      have z20 : w8.cell? ⟨(w.heap.size + 1), 1, none⟩ = some (.int .i64 0) := (hz.cell 1).trans rfl
      go_wp2_with fail
      clear z15 z16 z17 z18 z19 z20
      replace hown := own_setNe hown hc0 (by decide) 0 (.slice none 0 0)
      replace hown := own_setNe hown (hc0.set_ 0 (.slice none 0 0)) (by decide) 1 (.int .i64 0)
      have hnew := ((hc0.set_ 0 (.slice none 0 0)).set_ 1 (.int .i64 0))
      replace hz := ((hz.far (p := ⟨w.heap.size, 0, none⟩) (by simp <;> omega) (.slice none 0 0)).far (p := ⟨w.heap.size, 1, none⟩) (by simp <;> omega) (.int .i64 0))
      replace hB := ((hB.setCell (p := ⟨w.heap.size, 0, none⟩) (by simp <;> omega) (.slice none 0 0)).setCell (p := ⟨w.heap.size, 1, none⟩) (by simp <;> omega) (.int .i64 0))
      replace hc0 := hnew
      clear hnew
      generalize ((w8.setCell ⟨w.heap.size, 0, none⟩ (.slice none 0 0)).setCell ⟨w.heap.size, 1, none⟩ (.int .i64 0)) = w9 at *
      clear hown
      refine (fail8_any y _).mono ?_
      rintro e w10 ⟨rfl, b⟩
      replace hc0 := hc0.below b hc0.lt
      replace hz := hz.below b hz.lt
      replace hB := hB.trans (b.mono hB.size)
      clear b
      have z21 : w10.cell? ⟨(w.heap.size + 1), 0, none⟩ = some (.slice none 0 0) := (hz.cell 0).trans rfl
      have z22 := hz.frozen 0
      have z23 : w10.cell? ⟨(w.heap.size + 1), 1, none⟩ = some (.int .i64 0) := (hz.cell 1).trans rfl
      have z24 := hz.frozen 1
      go_wp2_with fail
      refine ret_c2 rfl curT8 rfl (by repeat (first | with_reducible exact hz | with_reducible (apply Blk.set_) | with_reducible (apply Blk.far; case hp => (simp <;> omega)) | with_reducible (apply Blk.alloc) | with_reducible (apply Blk.drew))) (by rfl) ?_
      unfold DcP
      exact ⟨none, 0, by rw [HV.out.1, HV.out.2, HE.out]; rfl, by rw [HV.out.1]; exact World.ownsRow_nil _ _ _ _, (by have hs_ := hB.size; repeat (first | with_reducible exact hB | with_reducible (refine Below.setCell ?_ (by simp <;> omega) _) | with_reducible (refine Below.alloc ?_ (by simp <;> omega) _) | with_reducible (refine Below.drew ?_)))⟩
    obtain ⟨v, hvv⟩ : ∃ v, (uvR l (q2 : Int)).2.1 = v := ⟨_, rfl⟩
    obtain ⟨u2, huv⟩ : ∃ u2, (uvR l (q2 : Int)).2.2 = u2 := ⟨_, rfl⟩
    have hR2 : uvR l (q2 : Int) = (0, v, u2) := by rw [← hx2, ← hvv, ← huv]
    obtain ⟨g1, hvl, hqu⟩ := uv64_ok A n c (HCQ.out q2 hq2n) hR2
    obtain ⟨q3, hq3⟩ : ∃ q3, q2 + u2 = q3 := ⟨_, rfl⟩
    rw [hq3] at g1
    have hq3n : q3 ≤ n := by rw [HL.out] at hqu; omega
    have HO2 := Lib.hid (show uvC A n c l (q2 : Int) 18446744073709551615 = cur A n c (q3 : Int) ∧ uvN l (q2 : Int) 18446744073709551615 = v ∧ uvE l (q2 : Int) 18446744073709551615 = 0 from ⟨g1.2.2, g1.2.1, g1.1⟩)
    have hW := rw_ok (k := N - (j + 1)) hR (by rw [hq2]; exact hR2)
    rw [hq2, hq3, ← hM] at hW
    have HN1 := Lib.hid (show (rwR l N b).1 = (rwR l (N - (j + 1)) q3).1 from by rw [HR1.out, hW])
    have HN2 := Lib.hid (show (rwR l N b).1 = 0 → (rwR l N b).2.1 = (done ++ [(x, v)]) ++ (rwR l (N - (j + 1)) q3).2.1 ∧ (rwR l N b).2.2 = (rwR l (N - (j + 1)) q3).2.2 from fun h => by
      obtain ⟨e1, e2⟩ := HR2.out h
      rw [e1, e2, hW]
      simp)
    clear hx2 hvv g1 hqu hW hR2 hR hq2 hq3 huu huv hM
    have z1 : wr.cell? ⟨w.heap.size, 0, none⟩ = some (.slice A n c) := (hc0.cell 0).trans rfl
    have z2 : wr.cell? ⟨w.heap.size, 1, none⟩ = some (.int .i64 (q : Int)) := (hc0.cell 1).trans rfl
    have z3 : wr.cell? ⟨(w.heap.size + 1), 0, none⟩ = some (.slice none 0 0) := (hz.cell 0).trans rfl
    have z4 : wr.cell? ⟨(w.heap.size + 1), 1, none⟩ = some (.int .i64 0) := (hz.cell 1).trans rfl
    go_wp2_with fail
    clear z1 z2 z3 z4
    refine (H1.out _ (HR.out.mv hB)).mono ?_
    rintro e w6 ⟨rfl, b⟩
    rw [HO1.out.1, HO1.out.2.1, HO1.out.2.2]
    replace hown := own_call hown b
    replace hc0 := hc0.below b hc0.lt
    replace hz := hz.below b hz.lt
    replace hB := hB.trans (b.mono hB.size)
    clear b
    have z5 : w6.cell? ⟨w.heap.size, 0, none⟩ = some (.slice A n c) := (hc0.cell 0).trans rfl
    have z6 := hc0.frozen 0
    have z7 : w6.cell? ⟨w.heap.size, 1, none⟩ = some (.int .i64 (q : Int)) := (hc0.cell 1).trans rfl
    have z8 := hc0.frozen 1
    have z9 : w6.cell? ⟨(w.heap.size + 1), 0, none⟩ = some (.slice none 0 0) := (hz.cell 0).trans rfl
    have z10 : w6.cell? ⟨(w.heap.size + 1), 1, none⟩ = some (.int .i64 0) := (hz.cell 1).trans rfl
    go_wp2_with fail
    clear z5 z6 z7 z8 z9 z10
    replace hown := own_setNe hown hc0 (by decide) 0 (.slice A n c)
    replace hown := own_setNe hown (hc0.set_ 0 (.slice A n c)) (by decide) 1 (.int .i64 (q2 : Int))
    have hnew := ((hc0.set_ 0 (.slice A n c)).set_ 1 (.int .i64 (q2 : Int)))
    replace hz := ((hz.far (p := ⟨w.heap.size, 0, none⟩) (by simp <;> omega) (.slice A n c)).far (p := ⟨w.heap.size, 1, none⟩) (by simp <;> omega) (.int .i64 (q2 : Int)))
    replace hB := ((hB.setCell (p := ⟨w.heap.size, 0, none⟩) (by simp <;> omega) (.slice A n c)).setCell (p := ⟨w.heap.size, 1, none⟩) (by simp <;> omega) (.int .i64 (q2 : Int)))
    replace hc0 := hnew
    clear hnew
    generalize ((w6.setCell ⟨w.heap.size, 0, none⟩ (.slice A n c)).setCell ⟨w.heap.size, 1, none⟩ (.int .i64 (q2 : Int))) = w7 at *
    have z11 : w7.cell? ⟨w.heap.size, 0, none⟩ = some (.slice A n c) := (hc0.cell 0).trans rfl
    have z12 : w7.cell? ⟨w.heap.size, 1, none⟩ = some (.int .i64 (q2 : Int)) := (hc0.cell 1).trans rfl
    have z13 : w7.cell? ⟨(w.heap.size + 1), 0, none⟩ = some (.slice none 0 0) := (hz.cell 0).trans rfl
    have z14 : w7.cell? ⟨(w.heap.size + 1), 1, none⟩ = some (.int .i64 0) := (hz.cell 1).trans rfl
    go_wp2_with fail
    clear z11 z12 z13 z14
    refine (H2.out _ (HR.out.mv hB)).mono ?_
    rintro e w8 ⟨rfl, b⟩
    rw [HO2.out.1, HO2.out.2.1, HO2.out.2.2]
    replace hown := own_call hown b
    replace hc0 := hc0.below b hc0.lt
    replace hz := hz.below b hz.lt
    replace hB := hB.trans (b.mono hB.size)
    clear b
    have z15 : w8.cell? ⟨w.heap.size, 0, none⟩ = some (.slice A n c) := (hc0.cell 0).trans rfl
    have z16 := hc0.frozen 0
    have z17 : w8.cell? ⟨w.heap.size, 1, none⟩ = some (.int .i64 (q2 : Int)) := (hc0.cell 1).trans rfl
    have z18 := hc0.frozen 1
    have z19 : w8.cell? ⟨(w.heap.size + 1), 0, none⟩ = some (.slice none 0 0) := (hz.cell 0).trans rfl
    have z20 : w8.cell? ⟨(w.heap.size + 1), 1, none⟩ = some (.int .i64 0) := (hz.cell 1).trans rfl
    replace hown := own_setNe hown hc0 (by decide) 0 (.slice A n c)
    replace hown := own_setNe hown (hc0.set_ 0 (.slice A n c)) (by decide) 1 (.int .i64 (q3 : Int))
    have hnew := ((hc0.set_ 0 (.slice A n c)).set_ 1 (.int .i64 (q3 : Int)))
    replace hz := ((hz.far (p := ⟨w.heap.size, 0, none⟩) (by simp <;> omega) (.slice A n c)).far (p := ⟨w.heap.size, 1, none⟩) (by simp <;> omega) (.int .i64 (q3 : Int)))
    replace hB := ((hB.setCell (p := ⟨w.heap.size, 0, none⟩) (by simp <;> omega) (.slice A n c)).setCell (p := ⟨w.heap.size, 1, none⟩) (by simp <;> omega) (.int .i64 (q3 : Int)))
    replace hc0 := hnew
    clear hnew
    by_cases h200 : x ≤ 200
    · have hmin : min x 200 = x := Nat.min_eq_left h200
      have hm1 : (x : Int) ≤ 200 := by omega
      go_wp2_with (at_builtin; refine wpList_app rfl (.tmp 93) (.tmp 97) _ rfl slR w.heap.size _ j _ rfl (own_call hown (Ext.al _ _)) _ (some ⟨w8.heap.size, 0, none⟩) 1 1 [.int .i64 ((enP 0 done : Int) + (x : Int)), .int .u64 (v : Int)] rfl (reads_two_at (by simp) _ _ _) (by simp [Value.oneCell']) (by omega) (by have := hB.size; simp at this ⊢; omega) ?_; intro A2 c2 w10 hown2 hg2 hb2 hc2)
      have hc10 := (hc0.below (Ext.al _ (.cells #[.int .i64 ((enP 0 done : Int) + (x : Int)), .int .u64 (v : Int)] 57)) hc0.lt).grown hg2 (fun h => own_blk_ne (own_call hown (Ext.al _ (.cells #[.int .i64 ((enP 0 done : Int) + (x : Int)), .int .u64 (v : Int)] 57))) (hc0.below (Ext.al _ (.cells #[.int .i64 ((enP 0 done : Int) + (x : Int)), .int .u64 (v : Int)] 57)) hc0.lt) (by decide) h.symm)
      have hz10 := (hz.below (Ext.al _ (.cells #[.int .i64 ((enP 0 done : Int) + (x : Int)), .int .u64 (v : Int)] 57)) hz.lt).grown hg2 (fun h => own_blk_ne (own_call hown (Ext.al _ (.cells #[.int .i64 ((enP 0 done : Int) + (x : Int)), .int .u64 (v : Int)] 57))) (hz.below (Ext.al _ (.cells #[.int .i64 ((enP 0 done : Int) + (x : Int)), .int .u64 (v : Int)] 57)) hz.lt) (by decide) h.symm)
      have hB10 := (hB.trans (Below.mono (Ext.al _ (.cells #[.int .i64 ((enP 0 done : Int) + (x : Int)), .int .u64 (v : Int)] 57)) hB.size)).trans hb2
      go_roundw
      case rel => exact ⟨j + 1, q3, done ++ [(x, v)], A2, c2, by omega, by go_num, by rw [enP_snoc, show min (x, v).1 200 = x from hmin]; simp, rfl, by simp [HD.out], hq3n, HN1.out, HN2.out, fun p hp => by (rcases List.mem_append.1 hp with h | h; exact HDV.out p h; simp at h; subst h; exact hvl), hc10, hz10, by rw [smP_snoc, rnC_append, show min (x, v).1 200 = x from hmin]; simpa [rnC] using hown2, hB10⟩
      case measure => simp [intOf]; omega
    · have hmin : min x 200 = 200 := Nat.min_eq_right (by omega)
      have hm1 : ¬ (x : Int) ≤ 200 := by omega
      go_wp2_with (at_builtin; refine wpList_app rfl (.tmp 93) (.tmp 97) _ rfl slR w.heap.size _ j _ rfl (own_call hown (Ext.al _ _)) _ (some ⟨w8.heap.size, 0, none⟩) 1 1 [.int .i64 ((enP 0 done : Int) + 200), .int .u64 (v : Int)] rfl (reads_two_at (by simp) _ _ _) (by simp [Value.oneCell']) (by omega) (by have := hB.size; simp at this ⊢; omega) ?_; intro A2 c2 w10 hown2 hg2 hb2 hc2)
      have hc10 := (hc0.below (Ext.al _ (.cells #[.int .i64 ((enP 0 done : Int) + 200), .int .u64 (v : Int)] 57)) hc0.lt).grown hg2 (fun h => own_blk_ne (own_call hown (Ext.al _ (.cells #[.int .i64 ((enP 0 done : Int) + 200), .int .u64 (v : Int)] 57))) (hc0.below (Ext.al _ (.cells #[.int .i64 ((enP 0 done : Int) + 200), .int .u64 (v : Int)] 57)) hc0.lt) (by decide) h.symm)
      have hz10 := (hz.below (Ext.al _ (.cells #[.int .i64 ((enP 0 done : Int) + 200), .int .u64 (v : Int)] 57)) hz.lt).grown hg2 (fun h => own_blk_ne (own_call hown (Ext.al _ (.cells #[.int .i64 ((enP 0 done : Int) + 200), .int .u64 (v : Int)] 57))) (hz.below (Ext.al _ (.cells #[.int .i64 ((enP 0 done : Int) + 200), .int .u64 (v : Int)] 57)) hz.lt) (by decide) h.symm)
      have hB10 := (hB.trans (Below.mono (Ext.al _ (.cells #[.int .i64 ((enP 0 done : Int) + 200), .int .u64 (v : Int)] 57)) hB.size)).trans hb2
      go_roundw
      case rel => exact ⟨j + 1, q3, done ++ [(x, v)], A2, c2, by omega, by go_num, by rw [enP_snoc, show min (x, v).1 200 = 200 from hmin]; simp, rfl, by simp [HD.out], hq3n, HN1.out, HN2.out, fun p hp => by (rcases List.mem_append.1 hp with h | h; exact HDV.out p h; simp at h; subst h; exact hvl), hc10, hz10, by rw [smP_snoc, rnC_append, show min (x, v).1 200 = 200 from hmin]; simpa [rnC] using hown2, hB10⟩
      case measure => simp [intOf]; omega

end Go.Proofs.Ytldaijkcmnnjpaa
