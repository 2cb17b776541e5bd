/- Contracts and laws of a chapter that its statement of names leans on. Each states its conditions. -/
import Derived.Test.YtldaijkcmnnjpaaHd5
namespace Go.Proofs.Ytldaijkcmnnjpaa
open Go.RowKit Wire
set_option linter.unusedVariables false
/-- A goroutine: status, code, sp, defers, panics, key. -/
abbrev Rtn := Nat × Nat × Nat × Nat × Nat × Int
def rtC (x : Rtn) : List Value := [.int .u8 (x.1 : Int), .int .u64 (x.2.1 : Int), .int .u64 (x.2.2.1 : Int), .int .u64 (x.2.2.2.1 : Int), .int .u64 (x.2.2.2.2.1 : Int), .int .i64 x.2.2.2.2.2]
def rtOk (x : Rtn) : Prop := x.1 < 256 ∧ x.2.1 < 18446744073709551616 ∧ x.2.2.1 < 18446744073709551616 ∧ x.2.2.2.1 < 18446744073709551616 ∧ x.2.2.2.2.1 < 18446744073709551616 ∧ (-9223372036854775808 ≤ x.2.2.2.2.2 ∧ x.2.2.2.2.2 ≤ 9223372036854775807)
/-- A slice of goroutines that reads as a list of them. -/
def RdT (w : World) (A : Option Addr) (n : Nat) (L : List Rtn) : Prop :=
  L.length = n ∧ Reads w w.heap.size 6 A n (L.map rtC).flatten ∧ ∀ x ∈ L, rtOk x
theorem RdT.mv {w w' : World} {A : Option Addr} {n : Nat} {L : List Rtn} (h : RdT w A n L) (hb : Below w.heap.size w w') : RdT w' A n L := ⟨h.1, h.2.1.mv hb, h.2.2⟩
theorem flat6_get {L : List Rtn} {k : Nat} {x : Rtn} (hk : L[k]? = some x) (i : Nat) (hi : i < 6) : (L.map rtC).flatten[k * 6 + i]? = (rtC x)[i]? := by
  induction L generalizing k with
  | nil => simp at hk
  | cons u L ih =>
    rw [List.map_cons, List.flatten_cons]
    rcases k with _ | k
    · simp at hk
      subst hk
      rw [List.getElem?_append_left (by simp [rtC]; omega)]
      simp
    · have := ih (k := k) (by simpa using hk)
      rw [List.getElem?_append_right (by simp [rtC]; omega), ← this]
      congr 1
      simp [rtC]
      omega
theorem at_off (ad : Addr) (m i : Nat) : ({ block := (ad.add m).block, off := (ad.add m).off + (i + 1) } : Addr) = ad.add (m + (i + 1)) := by simp [Addr.add]; split <;> simp <;> omega
theorem RdT.at_ {w : World} {A : Option Addr} {n : Nat} {L : List Rtn} (h : RdT w A n L) {k : Nat} (hk : k < n) :
    ∃ (ad : Addr) (st co sp df pn : Nat) (ky : Int), A = some ad ∧ ad.block < w.heap.size ∧ L[k]? = some (st, co, sp, df, pn, ky) ∧ rtOk (st, co, sp, df, pn, ky) ∧
      w.cell? (ad.add (k * 6)) = some (.int .u8 (st : Int)) ∧ w.cell? { block := (ad.add (k * 6)).block, off := (ad.add (k * 6)).off + 1 } = some (.int .u64 (co : Int)) ∧
      w.cell? { block := (ad.add (k * 6)).block, off := (ad.add (k * 6)).off + 2 } = some (.int .u64 (sp : Int)) ∧ w.cell? { block := (ad.add (k * 6)).block, off := (ad.add (k * 6)).off + 3 } = some (.int .u64 (df : Int)) ∧
      w.cell? { block := (ad.add (k * 6)).block, off := (ad.add (k * 6)).off + 4 } = some (.int .u64 (pn : Int)) ∧ w.cell? { block := (ad.add (k * 6)).block, off := (ad.add (k * 6)).off + 5 } = some (.int .i64 ky) := by
  obtain ⟨h1, h4, h5⟩ := h
  have hl : k < L.length := by omega
  obtain ⟨ad, rfl, hb, hc⟩ := h4.2 (by omega)
  have hg := List.getElem?_eq_getElem hl
  have hx := h5 _ (List.mem_of_getElem? hg)
  have hf := flat6_get hg
  obtain ⟨⟨st, co, sp, df, pn, ky⟩, hxe⟩ : ∃ x, L[k] = x := ⟨_, rfl⟩
  rw [hxe] at hg hx hf
  refine ⟨ad, st, co, sp, df, pn, ky, rfl, hb, hg, hx, ?_, ?_, ?_, ?_, ?_, ?_⟩
  · exact hc _ _ (hf 0 (by omega))
  · rw [at_off ad (k * 6) 0]; exact hc _ _ (hf 1 (by omega))
  · rw [at_off ad (k * 6) 1]; exact hc _ _ (hf 2 (by omega))
  · rw [at_off ad (k * 6) 2]; exact hc _ _ (hf 3 (by omega))
  · rw [at_off ad (k * 6) 3]; exact hc _ _ (hf 4 (by omega))
  · rw [at_off ad (k * 6) 4]; exact hc _ _ (hf 5 (by omega))
/-- Whether goroutines are heads, from a number on. -/
def hdsB (i : Nat) : List Rtn → Bool
  | [] => true
  | x :: r => hdB i x.1 x.2.1 x.2.2.1 x.2.2.2.1 x.2.2.2.2.1 x.2.2.2.2.2 && hdsB (i + 1) r
def hsB (L : List Rtn) : Bool := hdsB 0 L && (decide (0 < L.length) && decide (L.length ≤ 16))
theorem drop_get {α : Type} {l : List α} {j : Nat} {a : α} (h : l[j]? = some a) : l.drop j = a :: l.drop (j + 1) := by
  obtain ⟨hl, rfl⟩ := List.getElem?_eq_some_iff.mp h
  exact List.drop_eq_getElem_cons hl
set_option maxRecDepth 100000 in
set_option maxHeartbeats 3200000 in
theorem areHeads_any (A : Option Addr) (n c : Nat) (L : List Rtn) (w : World) (hr : RdT w A n L) (hn : n ≤ 1000000) :
    Calls Try.prog 84 #[.slice A n c] w fun e w' => e = .returned (.bool (hsB L)) ∧ Below w.heap.size w w' := by
  have HL := Lib.hid hr.1
  go_enter Try.func84, Try.ntmps84
  go_wp2_with fail
  go_loopw [7] (fun i wr => ∃ j : Nat, j ≤ n ∧ i = .int .i64 (j : Int) ∧ hdsB j (L.drop j) = hdsB 0 L ∧ Below w.heap.size w wr) (fun i _ => n - (intOf i).toNat)
  case atStart => exact ⟨0, by omega, rfl, rfl, Below.refl _ _⟩
  case round =>
    obtain ⟨j, hj, rfl, ht, hB⟩ := hrel
    by_cases hlt : j < n
    · have HR := hr.mv hB
      obtain ⟨ad, st, co, sp, df, pn, ky, hA, hab, hz, ⟨x1, x2, x3, x4, x5, x6⟩, c0, c1, c2, c3, c4, c5⟩ := HR.at_ hlt
      have hdr := drop_get hz
      rw [hdr] at ht
      have HT := Lib.hid ht
      clear ht hz hdr
      subst hA
      have b1 := Ext.al wr (.cells #[.int .u8 (st : Int), .int .u64 (co : Int), .int .u64 (sp : Int), .int .u64 (df : Int), .int .u64 (pn : Int), .int .i64 ky] 94)
      have hB1 := hB.trans (Below.mono b1 hB.size)
      have h4 := Blk.new wr 94 #[.int .u8 (st : Int), .int .u64 (co : Int), .int .u64 (sp : Int), .int .u64 (df : Int), .int .u64 (pn : Int), .int .i64 ky]
      have z0 : (wr.alloc (.cells #[.int .u8 (st : Int), .int .u64 (co : Int), .int .u64 (sp : Int), .int .u64 (df : Int), .int .u64 (pn : Int), .int .i64 ky] 94)).cell? ⟨wr.heap.size, 0, none⟩ = some (.int .u8 (st : Int)) := (h4.cell 0).trans rfl
      have z1 : (wr.alloc (.cells #[.int .u8 (st : Int), .int .u64 (co : Int), .int .u64 (sp : Int), .int .u64 (df : Int), .int .u64 (pn : Int), .int .i64 ky] 94)).cell? ⟨wr.heap.size, 1, none⟩ = some (.int .u64 (co : Int)) := (h4.cell 1).trans rfl
      have z2 : (wr.alloc (.cells #[.int .u8 (st : Int), .int .u64 (co : Int), .int .u64 (sp : Int), .int .u64 (df : Int), .int .u64 (pn : Int), .int .i64 ky] 94)).cell? ⟨wr.heap.size, 2, none⟩ = some (.int .u64 (sp : Int)) := (h4.cell 2).trans rfl
      have z3 : (wr.alloc (.cells #[.int .u8 (st : Int), .int .u64 (co : Int), .int .u64 (sp : Int), .int .u64 (df : Int), .int .u64 (pn : Int), .int .i64 ky] 94)).cell? ⟨wr.heap.size, 3, none⟩ = some (.int .u64 (df : Int)) := (h4.cell 3).trans rfl
      have z4 : (wr.alloc (.cells #[.int .u8 (st : Int), .int .u64 (co : Int), .int .u64 (sp : Int), .int .u64 (df : Int), .int .u64 (pn : Int), .int .i64 ky] 94)).cell? ⟨wr.heap.size, 4, none⟩ = some (.int .u64 (pn : Int)) := (h4.cell 4).trans rfl
      have z5 : (wr.alloc (.cells #[.int .u8 (st : Int), .int .u64 (co : Int), .int .u64 (sp : Int), .int .u64 (df : Int), .int .u64 (pn : Int), .int .i64 ky] 94)).cell? ⟨wr.heap.size, 5, none⟩ = some (.int .i64 ky) := (h4.cell 5).trans rfl
      go_wp2_with fail
      refine (isHead_any j st co sp df pn ky _ (by omega) x1 x3 x4 x5 x2).mono ?_
      rintro e w3 ⟨rfl, b3⟩
      have hB3 := hB1.trans (b3.mono hB1.size)
      clear c0 c1 c2 c3 c4 c5 b1 z0 z1 z2 z3 z4 z5 h4 hB1 HR b3
      cases hf : hdB j st co sp df pn ky
      · have HE := Lib.hid (show hsB L = false from by
          have h := HT.out
          simp only [hdsB, hf, Bool.false_and] at h
          simp [hsB, ← h])
        clear hf
        go_wp2_with fail
        go_ret
        exact ⟨by rw [HE.out]; rfl, hB3⟩
      · have HN := Lib.hid (show hdsB (j + 1) (L.drop (j + 1)) = hdsB 0 L from by
          have h := HT.out
          simpa only [hdsB, hf, Bool.true_and] using h)
        clear hf
        go_wp2_with fail
        go_roundw
        case rel => exact ⟨j + 1, by omega, by go_num, HN.out, hB3⟩
        case measure => simp [intOf]; omega
    · have HJ := Lib.hid (show hdsB 0 L = true from by
        rw [← ht, List.drop_of_length_le (by rw [HL.out]; omega)]; rfl)
      clear ht
      by_cases h0 : 0 < n
      · have d1 : decide ((n : Int) > 0) = true := by simp; omega
        by_cases h2 : n ≤ 16
        · have d2 : decide ((n : Int) ≤ 16) = true := by simp; omega
          have HE := Lib.hid (show hsB L = true from by simp [hsB, HJ.out, HL.out]; omega)
          go_wp2_with fail
          go_ret
          exact ⟨by rw [HE.out]; rfl, hB⟩
        · have d2 : decide ((n : Int) ≤ 16) = false := by simp; omega
          have HE := Lib.hid (show hsB L = false from by simp [hsB, HJ.out, HL.out]; omega)
          go_wp2_with fail
          go_ret
          exact ⟨by rw [HE.out]; rfl, hB⟩
      · have d1 : decide ((n : Int) > 0) = false := by simp; omega
        have HE := Lib.hid (show hsB L = false from by simp [hsB, HL.out]; omega)
        go_wp2_with fail
        go_ret
        exact ⟨by rw [HE.out]; rfl, hB⟩

end Go.Proofs.Ytldaijkcmnnjpaa
