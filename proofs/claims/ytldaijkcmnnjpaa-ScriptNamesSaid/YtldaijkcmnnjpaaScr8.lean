/- Contracts and laws of a chapter that its statement of names leans on. Each states its conditions. -/
import Derived.Test.YtldaijkcmnnjpaaScrLaw
namespace Go.Proofs.Ytldaijkcmnnjpaa
open Go.RowKit Wire
set_option linter.unusedVariables false
/-- All that was there is as it was, but for two blocks. -/
structure Ex2 (p q : Nat) (w w' : World) : Prop where
  os : w'.os = w.os
  tape : w'.tape = w.tape
  output : w'.output = w.output
  size : w.heap.size ≤ w'.heap.size
  block : ∀ k, k < w.heap.size → k ≠ p → k ≠ q → w'.heap[k]? = w.heap[k]?
theorem Ex2.refl (p q : Nat) (w : World) : Ex2 p q w w := ⟨rfl, rfl, rfl, Nat.le_refl _, fun _ _ _ _ => rfl⟩
theorem Ex2.of {w w' : World} (h : Below w.heap.size w w') (p q : Nat) : Ex2 p q w w' := ⟨h.os, h.tape, h.output, h.size, fun k hk _ _ => h.block k hk⟩
theorem Ex2.set1 {p q : Nat} {u w : World} (h : Ex2 p q u w) (i : Nat) (v : Value) : Ex2 p q u (w.setCell ⟨p, i, none⟩ v) :=
  ⟨h.os, h.tape, h.output, by simpa [World.setCell] using h.size, fun k hk hn hm => (Below.heap_setCell w ⟨p, i, none⟩ v k hn).trans (h.block k hk hn hm)⟩
theorem Ex2.set2 {p q : Nat} {u w : World} (h : Ex2 p q u w) (i : Nat) (v : Value) : Ex2 p q u (w.setCell ⟨q, i, none⟩ v) :=
  ⟨h.os, h.tape, h.output, by simpa [World.setCell] using h.size, fun k hk hn hm => (Below.heap_setCell w ⟨q, i, none⟩ v k hm).trans (h.block k hk hn hm)⟩
theorem Ex2.below {p q B : Nat} {w w' : World} (h : Ex2 p q w w') (hB : B ≤ w.heap.size) (hp : B ≤ p) (hq : B ≤ q) : Below B w w' := ⟨h.os, h.tape, h.output, h.size, fun k hk => h.block k (by omega) (by omega) (by omega)⟩
theorem Blk.ex2 {p q k : Nat} {w w' : World} {t : TypeId} {cs : Array Value} (h : Blk w k t cs) (hb : Ex2 p q w w') (hp : k ≠ p) (hq : k ≠ q) : Blk w' k t cs := (hb.block k h.lt hp hq).trans h
theorem own_ex2 {p q base : Nat} {w w' : World} {e : TypeId} {size : Nat} {v : Value} {n : Nat} {xs : List Value} (h : w.ownsRow base e size v n xs) (hb : Ex2 p q w w') (hp : p < base) (hq : q < base) : w'.ownsRow base e size v n xs := by
  refine ⟨h.1, ?_⟩
  rcases h.2 with h2 | ⟨g, cap, cur, h1, h2, h3, h4⟩
  · exact .inl h2
  · have hlt : g < w.heap.size := Blk.lt (t := e) (cs := cur) h3
    exact .inr ⟨g, cap, cur, h1, h2, (hb.block g hlt (by omega) (by omega)).trans h3, h4⟩
/-- The reader's two variables. -/
def Rdr (w : World) (p q : Nat) (A : Option Addr) (n c : Nat) : Option Nat → Prop
  | some k => Blk w p 70 #[.slice A n c, .int .i64 (k : Int)] ∧ Blk w q 26 #[.int .i64 0] ∧ k ≤ n
  | none => ∃ e : Int, e ≠ 0 ∧ Blk w p 70 #[.slice none 0 0, .int .i64 0] ∧ Blk w q 26 #[.int .i64 e]
theorem Rdr.lt {w : World} {p q : Nat} {A : Option Addr} {n c : Nat} {s : Option Nat} (h : Rdr w p q A n c s) : p < w.heap.size ∧ q < w.heap.size := by
  cases s with
  | none => obtain ⟨e, _, h1, h2⟩ := h; exact ⟨h1.lt, h2.lt⟩
  | some k => exact ⟨h.1.lt, h.2.1.lt⟩
theorem Rdr.keep {w w' : World} {p q : Nat} {A : Option Addr} {n c : Nat} {s : Option Nat} (h : Rdr w p q A n c s) (hp : w'.heap[p]? = w.heap[p]?) (hq : w'.heap[q]? = w.heap[q]?) : Rdr w' p q A n c s := by
  cases s with
  | none => obtain ⟨e, h0, h1, h2⟩ := h; exact ⟨e, h0, hp.trans h1, hq.trans h2⟩
  | some k => exact ⟨hp.trans h.1, hq.trans h.2.1, h.2.2⟩
theorem Rdr.far {w : World} {p q g : Nat} {A : Option Addr} {n c : Nat} {s : Option Nat} (h : Rdr w p q A n c s) (i : Nat) (v : Value) (hp : p ≠ g) (hq : q ≠ g) : Rdr (w.setCell ⟨g, i, none⟩ v) p q A n c s :=
  h.keep (Below.heap_setCell w ⟨g, i, none⟩ v p hp) (Below.heap_setCell w ⟨g, i, none⟩ v q hq)
theorem Rdr.below {w w' : World} {B p q : Nat} {A : Option Addr} {n c : Nat} {s : Option Nat} (h : Rdr w p q A n c s) (hb : Below B w w') (hp : p < B) (hq : q < B) : Rdr w' p q A n c s := h.keep (hb.block p hp) (hb.block q hq)
set_option maxRecDepth 100000 in
set_option maxHeartbeats 3200000 in
theorem get_any (p q : Nat) (hpq : p ≠ q) (A : Option Addr) (n c : Nat) (l : List UInt8) (s : Option Nat) (most : Nat) (w : World) (hr : Rb w A n l) (hn : n ≤ 200000) (hm : most ≤ 65535) (hs : Rdr w p q A n c s) :
    Calls Try.prog 62 #[.int .i64 (most : Int), .pointer (some ⟨q, 0, none⟩), .pointer (some ⟨p, 0, none⟩)] w fun e w' => e = .returned (.int .i64 ((gs l s most).1 : Nat)) ∧ Rdr w' p q A n c (gs l s most).2 ∧ Ex2 p q w w' := by
  cases s with
  | none =>
    obtain ⟨e0, he0, hk, hq⟩ := hs
    have c0 := (hq.cell 0).trans (show _ = some (.int .i64 e0) from rfl)
    have d0 : (e0 != 0) = true := by rw [bne_iff_ne]; exact he0
    go_enter Try.func62, Try.ntmps62
    go_wp2_with fail
    go_ret
    exact ⟨rfl, ⟨e0, he0, hk, hq⟩, Ex2.refl _ _ _⟩
  | some k =>
    obtain ⟨hk, hq, hkn⟩ := hs
    have HL := Lib.hid hr.len8
    have HU := Lib.hid (fun W (h : Rb W A n l) => unvary_any A n c l (k : Int) most W h (by omega) (by omega) (by omega))
    have HR := Lib.hid hr
    clear hr
    have k0 : w.cell? ⟨p, 0, none⟩ = some (.slice A n c) := (hk.cell 0).trans rfl
    have k1 : w.cell? ⟨p, 1, none⟩ = some (.int .i64 (k : Int)) := (hk.cell 1).trans rfl

    have c0 := (hq.cell 0).trans (show _ = some (.int .i64 0) from rfl)
    by_cases he : uvE l (k : Int) most = 0
    · obtain ⟨hu1, hu2, hu3⟩ := uv_zero he
      obtain ⟨g1, g2, g3, g4⟩ := uvR_le hu2
      rw [HL.out, Int.toNat_natCast] at g3
      have HC := Lib.hid (show uvC A n c l (k : Int) most = cur A n c (((k + (uvR l (k : Int)).2.2 : Nat)) : Int) from by simp [uvC, he])
      have HN := Lib.hid (show uvN l (k : Int) most = (uvR l (k : Int)).2.1 from by simp [uvN, he])
      have HG := Lib.hid (show gs l (some k) most = ((uvR l (k : Int)).2.1, some (k + (uvR l (k : Int)).2.2)) from by simp only [gs, he, if_true])
      rw [HG.out]
      have HE := Lib.hid he
      clear he hu2 g4
      generalize (uvR l (k : Int)).2.1 = v at *
      generalize k + (uvR l (k : Int)).2.2 = k2 at *
      go_enter Try.func62, Try.ntmps62
      go_wp2_with fail
      refine (HU.out _ HR.out).mono ?_
      rintro e w1 ⟨rfl, b⟩
      rw [HC.out, HN.out, HE.out]
      have hk1 := hk.below b hk.lt
      have hq1 := hq.below b hq.lt
      have hx := Ex2.of b p q
      have y0 : w1.cell? ⟨p, 0, none⟩ = some (.slice A n c) := (hk1.cell 0).trans rfl
      have y1 : w1.cell? ⟨p, 1, none⟩ = some (.int .i64 (k : Int)) := (hk1.cell 1).trans rfl
      have yf0 := hk1.frozen 0
      have yf1 := hk1.frozen 1

      have y9 := (hq1.cell 0).trans (show _ = some (.int .i64 0) from rfl)
      have yf9 := hq1.frozen 0
      have hq2 := (hq1.far (p := ⟨p, 0, none⟩) (Ne.symm hpq) (.slice A n c)).far (p := ⟨p, 1, none⟩) (Ne.symm hpq) (.int .i64 (k2 : Int))
      have z9 := (hq2.cell 0).trans (show _ = some (.int .i64 0) from rfl)
      have zf9 := hq2.frozen 0
      go_wp2_with fail
      go_ret
      exact ⟨rfl, ⟨((hk1.set_ 0 (.slice A n c)).set_ 1 (.int .i64 (k2 : Int))).far (p := ⟨q, 0, none⟩) hpq _, hq2.set_ 0 (.int .i64 0), g3⟩, ((hx.set1 0 _).set1 1 _).set2 0 _⟩
    · have HC := Lib.hid (uv_bad (l := l) (a := (k : Int)) (most := most) A n c rfl he)
      have HG := Lib.hid (show gs l (some k) most = (0, none) from by simp only [gs, he, if_false])
      rw [HG.out]
      have HE := Lib.hid he
      clear he
      go_enter Try.func62, Try.ntmps62
      go_wp2_with fail
      refine (HU.out _ HR.out).mono ?_
      rintro e w1 ⟨rfl, b⟩
      rw [HC.out.1, HC.out.2]
      clear HU HC
      generalize uvE l (k : Int) most = e0 at *
      have hk1 := hk.below b hk.lt
      have hq1 := hq.below b hq.lt
      have hx := Ex2.of b p q
      have y0 : w1.cell? ⟨p, 0, none⟩ = some (.slice A n c) := (hk1.cell 0).trans rfl
      have y1 : w1.cell? ⟨p, 1, none⟩ = some (.int .i64 (k : Int)) := (hk1.cell 1).trans rfl
      have yf0 := hk1.frozen 0
      have yf1 := hk1.frozen 1

      have hq2 := (hq1.far (p := ⟨p, 0, none⟩) (Ne.symm hpq) (.slice none 0 0)).far (p := ⟨p, 1, none⟩) (Ne.symm hpq) (.int .i64 0)
      have z9 := (hq2.cell 0).trans (show _ = some (.int .i64 0) from rfl)
      have zf9 := hq2.frozen 0
      go_wp2_with fail
      go_ret
      exact ⟨rfl, ⟨e0, HE.out, ((hk1.set_ 0 (.slice none 0 0)).set_ 1 (.int .i64 0)).far (p := ⟨q, 0, none⟩) hpq _, hq2.set_ 0 (.int .i64 e0)⟩, ((hx.set1 0 _).set1 1 _).set2 0 _⟩

end Go.Proofs.Ytldaijkcmnnjpaa
