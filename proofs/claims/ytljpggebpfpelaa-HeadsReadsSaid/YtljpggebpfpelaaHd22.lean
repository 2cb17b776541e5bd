/- The reference's number and eight, and its ReadEnded. Each states its conditions. -/
import Derived.Test.YtljpggebpfpelaaHd18
import Derived.Test.YtljpggebpfpelaaWireReads0
import Derived.BigQuiet
namespace Go.Proofs.Ytljpggebpfpelaa
open Go.RowKit Wire
set_option linter.unusedVariables false

/-- What the reference's number answers. -/
def NrR (l : List UInt8) (a : Int) (v : Nat) (e : Int) : Prop :=
  v < 18446744073709551616 ∧ ((∃ k u : Nat, a = k ∧ k ≤ l.length ∧ u ≤ l.length ∧ nm l k 18446744073709551615 = some (v, u) ∧ e = u) ∨ (v = 0 ∧ e = -1 ∧ ∀ k : Nat, a = k → k ≤ l.length → nm l k 18446744073709551615 = none))
theorem nrR_rng {l : List UInt8} {a : Int} {v : Nat} {e : Int} (h : NrR l a v e) : v < 18446744073709551616 ∧ -1 ≤ e ∧ e ≤ l.length := by
  obtain ⟨h1, ⟨k, u, _, _, h4, _, h6⟩ | ⟨_, h3, _⟩⟩ := h <;> omega
theorem nrR_neg {l : List UInt8} {a : Int} {v : Nat} {e : Int} (h : NrR l a v e) (ha : a = -1) : e = -1 := by
  obtain ⟨h1, ⟨k, u, h2, _, h4, _, h6⟩ | ⟨_, h3, _⟩⟩ := h <;> omega
theorem nrR_out (l : List UInt8) {a : Int} (ha : a < 0 ∨ l.length < a) : NrR l a 0 (-1) := ⟨by omega, .inr ⟨rfl, rfl, fun k h1 h2 => by omega⟩⟩
theorem nrR_at {l : List UInt8} {k v : Nat} {e : Int} (h : NrR l (k : Int) v e) (hk : k ≤ l.length) : (nm l k 18446744073709551615 = none ∧ e = -1) ∨ ∃ u : Nat, e = u ∧ u ≤ l.length ∧ nm l k 18446744073709551615 = some (v, u) := by
  obtain ⟨h1, ⟨k', u, h2, _, h4, h5, h6⟩ | ⟨_, h3, h4⟩⟩ := h
  · have : k' = k := by omega
    subst this
    exact .inr ⟨u, h6, h4, h5⟩
  · exact .inl ⟨h4 k rfl hk, h3⟩
theorem nm_rd {l : List UInt8} {k : Nat} (hl : l.length ≤ 200000) (hk : k ≤ l.length) : (rdE l (k : Int) = 0 → nm l k 18446744073709551615 = some (rdN l (k : Int), k + (uvR l (k : Int)).2.2)) ∧ (rdE l (k : Int) ≠ 0 → nm l k 18446744073709551615 = none) := by
  have hc : ckB l.length (k : Int) = true := ck_yes hk hl
  refine ⟨fun h => ?_, fun h => ?_⟩
  · have hr := rd_lt (l := l.drop k) (by simpa [rdE, uvR] using h)
    have hE : uvE l (k : Int) 18446744073709551615 = 0 := by
      unfold uvE
      rw [if_pos hc, if_neg (by simpa [rdE] using h), if_neg]
      simp only [uvR, Int.toNat_natCast]
      omega
    unfold nm
    rw [if_pos hE, rdN, if_pos h]
  · have hE : uvE l (k : Int) 18446744073709551615 ≠ 0 := by
      unfold uvE
      rw [if_pos hc, if_pos (by simpa [rdE] using h)]
      simpa [rdE] using h
    unfold nm
    rw [if_neg hE]
/-- The end that the reference's numbers make. -/
theorem redI {y : UInt8} {r : List UInt8} {v1 v2 : Nat} {e1 e2 : Int} (h1 : NrR (y :: r) 1 v1 e1) (h2 : NrR (y :: r) e1 v2 e2) :
    ((e2 ≠ (y :: r).length ∨ 5000 < v2 ∨ 100 < v1) → red (y :: r) = none) ∧ (e2 = (y :: r).length → v2 ≤ 5000 → red (y :: r) = if enB y.toNat (hlf v1) (v2 : Int) = true then some (y.toNat, hlf v1, (v2 : Int)) else none) := by
  obtain ⟨l, hl⟩ : ∃ l, y :: r = l := ⟨_, rfl⟩
  rw [hl] at h1 h2 ⊢
  have hlen : 1 ≤ l.length := by rw [← hl]; simp
  have hred : red l = (nm l 1 18446744073709551615).bind fun p => (nm l p.2 5000).bind fun q => if q.2 = l.length ∧ enB y.toNat (hlf p.1) (q.1 : Int) = true then some (y.toNat, hlf p.1, (q.1 : Int)) else none := by subst hl; rfl
  rcases nrR_at (k := 1) h1 hlen with ⟨k1, k2⟩ | ⟨u1, k2, k3, k1⟩
  · have := nrR_neg h2 k2
    rw [hred, k1]
    exact ⟨fun _ => rfl, fun h => by omega⟩
  · subst k2
    rw [hred, k1, Option.bind_some]
    simp only
    rw [nm_most (most := 5000) (by omega)]
    rcases nrR_at (k := u1) h2 k3 with ⟨j1, j2⟩ | ⟨u2, j2, j3, j1⟩
    · rw [j1]
      exact ⟨fun _ => rfl, fun h => by omega⟩
    · subst j2
      rw [j1, Option.bind_some]
      simp only
      refine ⟨fun h => ?_, fun h h5 => ?_⟩
      · by_cases h5 : v2 ≤ 5000
        · rw [if_pos h5, Option.bind_some, if_neg]
          rintro ⟨e, hb⟩
          obtain ⟨_, _, _, _, f1, f2⟩ := enB_ok hb
          simp only at e
          have hx : 100 < v1 := by omega
          unfold hlf at f1 f2
          split at f1 <;> split at f2 <;> omega
        · rw [if_neg h5]; rfl
      · rw [if_pos h5, Option.bind_some]
        simp only
        have : u2 = l.length := by omega
        simp only [this, true_and]

set_option maxRecDepth 100000 in
set_option maxHeartbeats 3200000 in
theorem number27_any (A : Option Addr) (n c : Nat) (l : List UInt8) (a : Int) (w : World) (hr : Rb w A n l) (hn : l.length ≤ 200000) (ha : -9223372036854775808 ≤ a ∧ a ≤ 9223372036854775807) :
    Calls Try.prog 52 #[.slice A n c, .int .i64 a] w fun e w' => ∃ (v : Nat) (e' : Int), e = .returned (.tuple #[.int .u64 (v : Int), .int .i64 e']) ∧ NrR l a v e' ∧ Below w.heap.size w w' := by
  have HL := Lib.hid hr.len8
  have HR := Lib.hid hr
  have hnl : n ≤ 200000 := by rw [← hr.len8]; exact hn
  clear hr
  go_enter Try.func52, Try.ntmps52
  by_cases g1 : a < 0
  · go_wp2_with fail
    go_ret2
    exact ⟨0, -1, rfl, nrR_out l (by have := HL.out; omega), Below.refl _ _⟩
  by_cases g2 : (n : Int) < a
  · go_wp2_with fail
    go_ret2
    exact ⟨0, -1, rfl, nrR_out l (by have := HL.out; omega), Below.refl _ _⟩
  obtain ⟨k, rfl⟩ : ∃ k : Nat, a = (k : Int) := ⟨a.toNat, by omega⟩
  have hkn : k ≤ n := by omega
  have HM := Lib.hid (nm_rd (l := l) (k := k) hn (by have := HL.out; omega))
  have HRD := Lib.hid (fun W (h : Rb W A n l) => read_any A n c l k W h (by omega) hkn)
  by_cases he : rdE l (k : Int) = 0
  · have hm := HM.out.1 he
    have h5 := nm_ok hm
    have hC : rdC A n c l (k : Int) = cur A n c (k + (uvR l (k : Int)).2.2) := by rw [rdC, if_pos he]
    rw [hC, he] at HRD
    obtain ⟨v, hv⟩ : ∃ v, rdN l (k : Int) = v := ⟨_, rfl⟩
    obtain ⟨u, hu⟩ : ∃ u, k + (uvR l (k : Int)).2.2 = u := ⟨_, rfl⟩
    have hui : (k : Int) + ((uvR l (k : Int)).2.2 : Int) = (u : Int) := by omega
    rw [hv, hui] at HRD
    rw [hv, hu] at hm h5
    have HN := Lib.hid (show NrR l (k : Int) v (u : Int) from ⟨h5.2.2.1, .inl ⟨k, u, rfl, by have := HL.out; omega, h5.2.2.2.2.1, hm, rfl⟩⟩)
    clear hm h5 hC hv hu hui he HM
    go_wp2_with fail
    refine (HRD.out _ HR.out).mono ?_
    rintro e w1 ⟨rfl, b⟩
    have h4 := Blk.new w1 99 #[.slice A n c, .int .i64 (u : Int)]
    have q1 : ∀ q_, ((w1.alloc (.cells #[.slice A n c, .int .i64 (u : Int)] 99)).drewN q_).cell? ⟨w1.heap.size, 1, none⟩ = some (.int .i64 (u : Int)) := fun q_ => (h4.cell 1).trans rfl
    have hB := b.alloc b.size (.cells #[.slice A n c, .int .i64 (u : Int)] 99)
    go_wp2_with fail
    go_quiet (fail)
    go_wp2_with fail
    go_ret2
    exact ⟨v, (u : Int), rfl, HN.out, ⟨hB.os, hB.tape, hB.output, hB.size, hB.block⟩⟩
  · have hm := HM.out.2 he
    have hC : rdC A n c l (k : Int) = cur none 0 0 0 := by rw [rdC, if_neg he]
    have hN : rdN l (k : Int) = 0 := by rw [rdN, if_neg he]
    rw [hC, hN] at HRD
    obtain ⟨er, her⟩ : ∃ er, rdE l (k : Int) = er := ⟨_, rfl⟩
    rw [her] at HRD he
    have HN := Lib.hid (show NrR l (k : Int) 0 (-1) from ⟨by omega, .inr ⟨rfl, rfl, fun k' h1 h2 => by rw [show k' = k from by omega]; exact hm⟩⟩)
    have d0 : (er != 0) = true := by simpa using he
    clear hm hC hN her he HM
    go_wp2_with fail
    refine (HRD.out _ HR.out).mono ?_
    rintro e w1 ⟨rfl, b⟩
    go_wp2_with fail
    go_ret2
    exact ⟨0, -1, rfl, HN.out, b.alloc b.size _⟩

set_option maxRecDepth 100000 in
set_option maxHeartbeats 1600000 in
theorem eight27_any (v : Nat) (w : World) (hv : v < 18446744073709551616) :
    Calls Try.prog 54 #[.int .u64 (v : Int)] w fun e w' => ∃ z : Nat, e = .returned (.tuple #[.int .u64 (z : Int), .bool (decide (v < 2305843009213693952))]) ∧ z < 18446744073709551616 ∧ (v < 2305843009213693952 → z = 8 * v) ∧ w = w' := by
  obtain ⟨z, hz⟩ : ∃ z, v * 8 % 18446744073709551616 = z := ⟨_, rfl⟩
  have hw : IntKind.u64.wrap ((v : Int) * 8) = (z : Int) := by rw [IntKind.wrap_u64]; omega
  have hd : decide ((v : Int) < 2305843009213693952) = decide (v < 2305843009213693952) := by simp; omega
  have HZ := Lib.hid (show z < 18446744073709551616 ∧ (v < 2305843009213693952 → z = 8 * v) from by omega)
  clear hz
  go_enter Try.func54, Try.ntmps54
  go_wp2_with fail
  go_ret2
  exact ⟨z, by simp, HZ.out.1, HZ.out.2, rfl⟩

end Go.Proofs.Ytljpggebpfpelaa
