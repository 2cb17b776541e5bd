/- Contracts and laws of a chapter that its statement of names leans on. Each states its conditions. -/
import Derived.Test.YtldaijkcmnnjpaaTab4
namespace Go.Proofs.Ytldaijkcmnnjpaa
open Go.RowKit Wire
set_option linter.unusedVariables false
theorem vlF_app (i : Int) (X Y : List (Int × Nat)) (v : Nat) : vlF i (X ++ Y) v = vlF i Y (vlF i X v) := by
  induction X generalizing v with
  | nil => rfl
  | cons p X ih => simp only [List.cons_append, vlF, ih]
theorem vlF_big {i : Int} {Y : List (Int × Nat)} {v : Nat} (h : ∀ q ∈ Y, i < q.1) : vlF i Y v = v := by
  induction Y with
  | nil => rfl
  | cons p Y ih =>
    have := h p (by simp)
    rw [vlF, if_neg (by omega)]
    exact ih (fun q hq => h q (by simp [hq]))
theorem frB_gt {p : Int × Nat} {r : List (Int × Nat)} {n : Int} (h : frB p r n = true) : ∀ q ∈ r, p.1 < q.1 := by
  induction r generalizing p with
  | nil => simp
  | cons x r ih =>
    simp only [frB, Bool.and_eq_true, decide_eq_true_eq] at h
    intro q hq
    rcases List.mem_cons.1 hq with rfl | hq
    · exact h.1.2.1
    · have := ih h.2 q hq
      have := h.1.2.1
      omega
theorem frB_at {p q : Int × Nat} {r : List (Int × Nat)} {n : Int} {j : Nat} (h : frB p r n = true) (hz : r[j]? = some q) : q.1 < n ∧ p.1 < q.1 ∧ frB q (r.drop (j + 1)) n = true := by
  induction r generalizing p j with
  | nil => simp at hz
  | cons x r ih =>
    simp only [frB, Bool.and_eq_true, decide_eq_true_eq] at h
    rcases j with _ | j
    · simp at hz
      subst hz
      exact ⟨h.1.1, h.1.2.1, by simpa using h.2⟩
    · obtain ⟨g1, g2, g3⟩ := ih h.2 (by simpa using hz)
      have := h.1.2.1
      exact ⟨g1, by omega, by simpa using g3⟩
theorem fn_at {L : List (Int × Nat)} {n : Int} {j : Nat} {q : Int × Nat} (h : fnB L n = true) (hz : L[j]? = some q) : (0 ≤ q.1 ∧ q.1 < n) ∧ frB q (L.drop (j + 1)) n = true := by
  rcases L with _ | ⟨p, r⟩
  · simp at hz
  · rw [fnB_ref] at h
    simp only [Bool.and_eq_true, beq_iff_eq, decide_eq_true_eq] at h
    rcases j with _ | j
    · simp at hz
      subst hz
      exact ⟨⟨by omega, h.2.1⟩, by simpa using h.2.2⟩
    · obtain ⟨g1, g2, g3⟩ := frB_at h.2.2 (by simpa using hz)
      exact ⟨⟨by omega, g1⟩, by simpa using g3⟩
theorem fn_first {L : List (Int × Nat)} {n : Int} (h : fnB L n = true) : ∃ v r, L = (0, v) :: r := by
  rcases L with _ | ⟨⟨f, v⟩, r⟩
  · cases h
  · rw [fnB_ref] at h
    simp only [Bool.and_eq_true, beq_iff_eq] at h
    obtain rfl := h.1
    exact ⟨v, r, rfl⟩
theorem fn_next {L : List (Int × Nat)} {n : Int} {j : Nat} {q q2 : Int × Nat} (h : fnB L n = true) (hz : L[j]? = some q) (hz2 : L[j + 1]? = some q2) : q.1 < q2.1 ∧ q.2 ≠ q2.2 := by
  have h1 := (fn_at h hz).2
  rw [drop_get hz2, frB] at h1
  simp at h1
  exact ⟨h1.1.2.1, h1.1.2.2⟩
theorem val_at {L : List (Int × Nat)} {n i b : Int} {j v : Nat} (h : fnB L n = true) (hz : L[j]? = some (b, v)) (hb : b ≤ i) (he : ∀ q, L[j + 1]? = some q → i < q.1) : valA L i = v := by
  have e : L = L.take j ++ (b, v) :: L.drop (j + 1) := by rw [← drop_get hz, List.take_append_drop]
  have h1 := (fn_at h hz).2
  rw [valA, e, vlF_app, vlF, if_pos hb]
  refine vlF_big fun q hq => ?_
  rcases hd : L.drop (j + 1) with _ | ⟨x, s⟩
  · rw [hd] at hq; simp at hq
  · rw [hd] at hq h1
    have hx : L[j + 1]? = some x := by
      have := congrArg (fun l => l[0]?) hd
      simpa using this
    have h2 := he x hx
    rcases List.mem_cons.1 hq with rfl | hq
    · exact h2
    · simp only [frB, Bool.and_eq_true] at h1
      have := frB_gt h1.2 q hq
      omega
theorem arrU_list (m : Nat) (F : Nat → Nat) : (arr .u64 m F).toList = ((List.range m).map F).map vU := by
  simp [arr, vU]
theorem arr_made (m : Nat) : (madeCells (Value.int .u64 0).cells (m * 1)) = arr .u64 m (fun _ => 0) := by
  apply Array.toList_inj.1
  rw [show (Value.int .u64 0).cells = #[Value.int .u64 0] from rfl, Nat.mul_one, toList_madeCells_one]
  simp only [arr]
  rw [List.map_const']
  simp
theorem own_blk {w : World} {base g m : Nat} {e : TypeId} {cs : Array Value} (h : w.ownsRow base e 1 (.slice (some ⟨g, 0, none⟩) m m) m cs.toList) : Blk w g e cs ∧ base ≤ g ∧ m ≤ maxLen ∧ cs.size = m := by
  have h0 := h.1
  rcases h.2 with ⟨h1, _⟩ | ⟨g', cap, cur, hv, hg, hh, hn, hc, hsz, htake⟩
  · cases h1
  · injection hv with hv1 hv2 hv3
    injection hv1 with hv1
    injection hv1 with hv1
    subst hv1 hv3
    have e1 : cur = cs := by
      apply Array.toList_inj.1
      rw [← htake, List.take_of_length_le (by simp; omega)]
    subst e1
    exact ⟨hh, hg, hc, by simpa using h0⟩
theorem blk_own {w : World} {base g m : Nat} {e : TypeId} {cs : Array Value} (h : Blk w g e cs) (hs : cs.size = m) (hg : base ≤ g) (hm : m ≤ maxLen) : w.ownsRow base e 1 (.slice (some ⟨g, 0, none⟩) m m) m cs.toList :=
  ⟨by simp [hs], .inr ⟨g, m, cs, rfl, hg, h, Nat.le_refl _, hm, by omega, List.take_of_length_le (by simp; omega)⟩⟩
theorem cl0 {w W : World} (hB : Below w.heap.size w W) {ad : Addr} {k : Nat} {v : Value} (hab : ad.block < w.heap.size) (h : w.cell? (ad.add k) = some v) : W.cell? (ad.add k) = some v := (hB.cell (by rw [block_of_add]; exact hab)).trans h
theorem cl1 {w W : World} (hB : Below w.heap.size w W) {ad : Addr} {k : Nat} {v : Value} (hab : ad.block < w.heap.size) (h : w.cell? { block := (ad.add k).block, off := (ad.add k).off + 1 } = some v) : W.cell? { block := (ad.add k).block, off := (ad.add k).off + 1 } = some v := (hB.cell (p := { block := (ad.add k).block, off := (ad.add k).off + 1 }) (by show (ad.add k).block < _; rw [block_of_add]; exact hab)).trans h

end Go.Proofs.Ytldaijkcmnnjpaa
