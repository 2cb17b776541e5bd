/- The contracts of the reference's StackBytes and WriteStacks. -/
import Derived.Test.YtponceakelimeaaMem3
namespace Go.Proofs.Ytponceakelimeaa
open Go.RowKit Wire
set_option linter.unusedVariables false

/-- Regions' bytes, each behind its length. -/
def rgs (L : List (Nat × List UInt8)) : List UInt8 := (L.map fun p => vry p.2.length ++ p.2).flatten
def stL (L : List (Nat × List UInt8)) : List UInt8 := vry L.length ++ rgs L
theorem rgs_take {L : List (Nat × List UInt8)} {j b : Nat} {l : List UInt8} (h : L[j]? = some (b, l)) : rgs (L.take (j + 1)) = rgs (L.take j) ++ (vry l.length ++ l) := by
  rw [List.take_add_one, h]
  simp [rgs]

set_option maxRecDepth 100000 in
set_option maxHeartbeats 3200000 in
theorem stackBytes_any (A : Option Addr) (n c : Nat) (L : List (Nat × List UInt8)) (w : World) (hr : RdR w A n L) (hn : n ≤ 16) (hbd : ∀ p ∈ L, p.2.length ≤ 4096) :
    Calls Try.prog 35 #[.slice A n c] w fun e w' => ∃ A' c', e = .returned (.slice A' (stL L).length c') ∧ w'.ownsRow w.heap.size 5 1 (.slice A' (stL L).length c') (stL L).length ((stL L).map b8) ∧ Below w.heap.size w w' := by
  have HL := Lib.hid hr.1
  have hv := (vry_len n).2
  have HS := Lib.hid (show stL L = vry n ++ rgs (L.take n) from by rw [stL, HL.out, List.take_of_length_le (by rw [HL.out]; omega)])
  have HBD := Lib.hid hbd
  have HR := Lib.hid hr
  clear hr hbd
  go_enter Try.func35, Try.ntmps35
  go_wp2_with fail
  refine (minimal_any n (by omega) _).mono ?_
  rintro e w2 ⟨A2, c2, rfl, o2, b2⟩
  go_wp2_with fail
  go_loopw [3, 4] (fun v i wr => ∃ (j m : Nat) (A1 : Option Addr) (c1 : Nat), j ≤ n ∧ i = .int .i64 (j : Int) ∧ (vry n ++ rgs (L.take j)).length = m ∧ m ≤ 10 + 4106 * j ∧ v = .slice A1 m c1 ∧ wr.ownsRow w.heap.size 5 1 (.slice A1 m c1) m ((vry n ++ rgs (L.take j)).map b8) ∧ Below w.heap.size w wr) (fun _ i _ => n - (intOf i).toNat)
  case atStart => exact ⟨0, (vry n).length, A2, c2, by omega, rfl, by simp [rgs], by omega, rfl, by simpa [rgs] using o2, b2⟩
  case round =>
    obtain ⟨j, m, A1, c1, hj, rfl, hm, hm2, rfl, hown, hB⟩ := hrel
    have HM := Lib.hid hm
    clear hm
    by_cases hlt : j < n
    · obtain ⟨ad, b, l, Ai, ci, hA, hab, hz, c0, c1, _, rl, hb⟩ := (HR.out.mv hB).at_ hlt
      have hl4 : l.length ≤ 4096 := HBD.out (b, l) (List.mem_of_getElem? hz)
      have HT := Lib.hid (rgs_take hz)
      have HA := Lib.hid hA
      clear hz
      subst hA
      have HC := Lib.hid (fun W (h : Rb W Ai l.length l) => counted_any Ai l.length ci l W h (by omega))
      have hct : (vry l.length ++ l).length ≤ 4106 := by
        have hvl := (vry_len l.length).2
        rw [List.length_append]; omega
      generalize vry l.length ++ l = ct at *
      have c2 : wr.cell? { block := (ad.add (j * 2)).block, off := (ad.add (j * 2)).off + 1 } = some (.slice Ai l.length ci) := by
        have e : ({ block := (ad.add (j * 2)).block, off := (ad.add (j * 2)).off + 1 } : Addr) = ad.add (j * 2 + 1) := by simp [Addr.add]; split <;> simp <;> omega
        rw [e]; exact c1

      go_wp2_with fail
      refine (HC.out _ rl).mono ?_
      rintro e w6 ⟨A6, c6, rfl, o6, b⟩
      have R6 := own_rd o6
      have hown6 := own_call hown b
      have hb6 := hB.trans (b.mono hB.size)
      clear hown c0 c1 c2 rl
      go_wp2_with (at_builtin; refine wpList_app8 rfl (.tmp 15) (.tmp 21) _ (by rfl) sl8 w.heap.size (by rfl) hown6 (by rfl) R6 (m + ct.length) rfl (by omega) hb6.size ?_; intro A7 c7 w7 o7 b7)
      go_roundw
      case rel => exact ⟨j + 1, m + ct.length, A7, c7, by omega, by go_num, by rw [HT.out, ← List.append_assoc, List.length_append, HM.out], by omega, rfl, by rw [HT.out, ← List.append_assoc]; exact o7, hb6.trans b7⟩
      case measure => simp [intOf]; omega
    · have hjn : j = n := by omega
      subst hjn
      rw [← HS.out] at hown HM
      go_wp2_with fail
      go_ret
      rw [HM.out]
      exact ⟨A1, c1, rfl, hown, hB⟩

def whS (L : List (Nat × List UInt8)) : List UInt8 := if stB L then stL L else []
def whSE (L : List (Nat × List UInt8)) : Int := if stB L then 0 else 8
theorem stk_bd {L : List (Nat × List UInt8)} : ∀ {i : Nat}, stkB i L = true → ∀ p ∈ L, p.2.length ≤ 4096 := by
  induction L with
  | nil => intro i _ p hp; simp at hp
  | cons q L ih =>
    intro i h p hp
    simp only [stkB, Bool.and_eq_true] at h
    rcases List.mem_cons.1 hp with rfl | hp
    · have := h.1
      simp [fitB] at this
      omega
    · exact ih h.2 p hp
theorem stB_bd {L : List (Nat × List UInt8)} (h : stB L = true) : L.length ≤ 16 ∧ ∀ p ∈ L, p.2.length ≤ 4096 := by
  simp only [stB, Bool.and_eq_true, decide_eq_true_eq] at h
  exact ⟨h.2.2, stk_bd h.1⟩

set_option maxRecDepth 100000 in
set_option maxHeartbeats 3200000 in
theorem rewriteStacks_any (A : Option Addr) (n c : Nat) (L : List (Nat × List UInt8)) (w : World) (hr : RdR w A n L) :
    Calls Try.prog 15 #[.slice A n c] w fun e w' => ∃ A' c', e = .returned (.tuple #[.slice A' (whS L).length c', .int .i64 (whSE L)]) ∧ w'.ownsRow w.heap.size 5 1 (.slice A' (whS L).length c') (whS L).length ((whS L).map b8) ∧ Below w.heap.size w w' := by
  cases hh : stB L
  · have HV := Lib.hid (show whS L = [] ∧ whSE L = 8 from by constructor <;> simp [whS, whSE, hh])
    have HH := Lib.hid hh
    clear hh
    go_enter Try.func15, Try.ntmps15
    go_wp2_with fail
    refine (stacks26_any A n c L _ hr).mono ?_
    rintro e wq ⟨rfl, rfl⟩
    rw [HH.out]
    go_wp2_with fail
    go_ret2
    exact ⟨none, 0, by rw [HV.out.1, HV.out.2]; rfl, by rw [HV.out.1]; exact World.ownsRow_nil _ _ _ _, Below.refl _ _⟩
  have HV := Lib.hid (show whS L = stL L ∧ whSE L = 0 from by constructor <;> simp [whS, whSE, hh])
  have hbd := stB_bd hh
  have HC := Lib.hid (fun W (h : RdR W A n L) => stackBytes_any A n c L W h (by rw [← hr.1]; exact hbd.1) hbd.2)
  have HH := Lib.hid hh
  clear hh hbd
  go_enter Try.func15, Try.ntmps15
  go_wp2_with fail
  refine (stacks26_any A n c L _ hr).mono ?_
  rintro e wq ⟨rfl, rfl⟩
  rw [HH.out]
  go_wp2_with fail
  refine (HC.out _ hr).mono ?_
  rintro e w2 ⟨A2, c2, rfl, o2, b2⟩
  go_wp2_with fail
  go_ret2
  exact ⟨A2, c2, by rw [HV.out.1, HV.out.2]; rfl, by rw [HV.out.1]; exact o2, b2⟩

end Go.Proofs.Ytponceakelimeaa
