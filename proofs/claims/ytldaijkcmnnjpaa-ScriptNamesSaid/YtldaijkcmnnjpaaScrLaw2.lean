/- Contracts and laws of a chapter that its statement of names leans on. Each states its conditions. -/
import Derived.Test.YtldaijkcmnnjpaaScr9
namespace Go.Proofs.Ytldaijkcmnnjpaa
open Go.RowKit Wire
set_option linter.unusedVariables false
theorem cod_same {st sk hp rt st2 sk2 hp2 rt2 : Int} {l l2 : List Int} (h1 : scB st sk hp rt l = true) (h2 : scB st2 sk2 hp2 rt2 l2 = true) (h : cod (fullL st2 sk2 hp2 rt2 l2) = cod (fullL st sk hp rt l)) : st2 = st ∧ sk2 = sk ∧ hp2 = hp ∧ rt2 = rt ∧ l2 = l :=
  full_inj (cod_inj (okU_full h2) (okU_full h1) h)
def Valid (l : List UInt8) (st sk hp rt : Int) (ps : List Int) : Prop := scB st sk hp rt ps = true ∧ cod (fullL st sk hp rt ps) = l
def DcCases (w : World) (l : List UInt8) (e : Ending) (w' : World) : Prop :=
  ((∃ st sk hp rt ps A' c', Valid l st sk hp rt ps ∧ e = .returned (.tuple #[scr A' ps.length c' st sk hp rt, .int .i64 0]) ∧ RdI w' w'.heap.size A' ps.length ps ∧ ps.length ≤ c') ∨
   (∃ e0 A' c', e0 ≠ 0 ∧ (l.length ≤ 6100 → e0 = 12) ∧ (l.length ≤ 6100 → ¬ ∃ st sk hp rt ps, Valid l st sk hp rt ps) ∧ e = .returned (.tuple #[scr A' 0 c' 0 0 0 0, .int .i64 e0]) ∧ RdI w' w'.heap.size A' 0 [])) ∧ Below w.heap.size w w'
theorem decode_cases (A : Option Addr) (n c : Nat) (l : List UInt8) (w : World) (hr : Rb w A n l) (hnc : n ≤ c) :
    Calls Try.prog 20 #[.slice A n c] w fun e w' => DcCases w l e w' := by
  refine (decode_any A n c l w hr hnc).mono fun e w' hp => ?_
  obtain ⟨A', c', h1, h2, h3⟩ := hp
  refine ⟨?_, h3⟩
  by_cases he : dcE l = 0
  · left
    simp only [he, if_true] at h1 h2
    have hl : l.length ≤ 6100 := by
      unfold dcE at he; split at he
      · cases he
      · omega
    have hd : dcB l = true := by
      unfold dcE at he; rw [if_neg (by omega)] at he
      split at he
      · assumption
      · cases he
    exact ⟨_, _, _, _, _, A', c', dc_yes hd, h1, own_reads h2, (own_cap h2).1⟩
  · right
    simp only [he, if_false] at h1 h2
    refine ⟨dcE l, A', c', he, fun hl => ?_, fun hl => ?_, h1, own_reads h2⟩
    · unfold dcE at he ⊢
      rw [if_neg (by omega)] at he ⊢
      split at he
      · exact absurd rfl he
      · rename_i h; rw [if_neg h]
    · rintro ⟨st, sk, hp, rt, ps, h4, h5⟩
      have hd := (dc_no (by omega) h4 h5).1
      unfold dcE at he
      rw [if_neg (by omega), if_pos hd] at he
      exact he rfl
theorem decode_ok (A : Option Addr) (n c : Nat) (l : List UInt8) (st sk hp rt : Int) (ps : List Int) (w : World) (hr : Rb w A n l) (hnc : n ≤ c) (hl : n ≤ 6100) (hs : scB st sk hp rt ps = true) (hc : cod (fullL st sk hp rt ps) = l) :
    Calls Try.prog 20 #[.slice A n c] w fun e w' => ∃ A' c', e = .returned (.tuple #[scr A' ps.length c' st sk hp rt, .int .i64 0]) ∧ RdI w' w'.heap.size A' ps.length ps ∧ Below w.heap.size w w' := by
  have hlen := hr.len8
  refine (decode_cases A n c l w hr hnc).mono fun e w' hp => ?_
  obtain ⟨h1 | ⟨e0, A', c', _, _, hno, _, _⟩, hb⟩ := hp
  · obtain ⟨st2, sk2, hp2, rt2, ps2, A', c', hv, h1, h2, h3⟩ := h1
    obtain ⟨rfl, rfl, rfl, rfl, rfl⟩ := cod_same hs hv.1 (hv.2.trans hc.symm)
    exact ⟨A', c', h1, h2, hb⟩
  · exact absurd ⟨st, sk, hp, rt, ps, hs, hc⟩ (hno (by omega))
theorem decode_no (A : Option Addr) (n c : Nat) (l : List UInt8) (w : World) (hr : Rb w A n l) (hnc : n ≤ c) (hl : n ≤ 6100) (hno : ¬ ∃ st sk hp rt ps, Valid l st sk hp rt ps) :
    Calls Try.prog 20 #[.slice A n c] w fun e w' => ∃ A' c', e = .returned (.tuple #[scr A' 0 c' 0 0 0 0, .int .i64 12]) ∧ Below w.heap.size w w' := by
  have hlen := hr.len8
  refine (decode_cases A n c l w hr hnc).mono fun e w' hp => ?_
  obtain ⟨⟨st2, sk2, hp2, rt2, ps2, A', c', hv, _⟩ | ⟨e0, A', c', _, h12, _, h1, _⟩, hb⟩ := hp
  · exact absurd ⟨_, _, _, _, _, hv⟩ hno
  · rw [h12 (by omega)] at h1
    exact ⟨A', c', h1, hb⟩

end Go.Proofs.Ytldaijkcmnnjpaa
