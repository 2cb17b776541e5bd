/- A region that draws its order: its first m operations in whatever order, then the others by hand. Laws over any program; no conditions beyond those that each one states. -/
import Derived.Test.YtldaijkcmnnjpaaTb4
namespace Go.Proofs.Ytldaijkcmnnjpaa
open Go.RowKit
set_option linter.unusedVariables false

def bnd (ops : Array Oper) (i : Nat) : List Nat := match ops[i]? with
  | some o => (o.after.toList.filter fun e => Region.binds .any e).map (·.on)
  | none => []
/-- What an operation waits for, directly or through others. -/
def cov (ops : Array Oper) : Nat → Nat → List Nat
  | 0, _ => []
  | f + 1, k => (bnd ops k).flatMap fun j => j :: cov ops f j
def preB (ops : Array Oper) (ds : List Tmp) (m n : Nat) : Bool :=
  decide (m = ds.length) && (decide (m ≤ ops.size) && (((List.range m).all fun i => (match ops[i]? with | some o => o.guard.isNone && decide (o.dst = ds[i]?) | none => false) && (bnd ops i).all fun j => decide (j < i)) &&
    (((List.range ops.size).all fun k => decide (k < m) || ((bnd ops k).any fun j => decide (m ≤ j) && decide (j < ops.size)) || (List.range m).all fun i => (cov ops ops.size k).contains i) && (decide ds.Nodup && ds.all fun d => decide (d < n)))))
section
variable {P : Program} {ops : Array Oper} {Q : Exit → Act → World → Prop} {S S1 : World → Prop} {Pr : Nat → Value → World → Prop} {ds : List Tmp} {a0 : Act}
theorem bnd_of {i : Nat} {o : Oper} (ho : ops[i]? = some o) {e : Edge} (he : e ∈ o.after) (hb : Region.binds .any e = true) : e.on ∈ bnd ops i := by
  unfold bnd
  rw [ho]
  exact List.mem_map.2 ⟨e, List.mem_filter.2 ⟨by simpa using he, hb⟩, rfl⟩
theorem of_bnd {i j : Nat} {o : Oper} (ho : ops[i]? = some o) (h : j ∈ bnd ops i) : ∃ e ∈ o.after, Region.binds .any e = true ∧ e.on = j := by
  unfold bnd at h
  rw [ho] at h
  obtain ⟨e, he, rfl⟩ := List.mem_map.1 h
  obtain ⟨h1, h2⟩ := List.mem_filter.1 he
  exact ⟨e, by simpa using h1, h2, rfl⟩
theorem cov_listed {listed : Array Bool} (hcl : ∀ i, listed.getD i false = true → ∀ j ∈ bnd ops i, listed.getD j false = true) : ∀ (f k : Nat), (∀ j ∈ bnd ops k, listed.getD j false = true) → ∀ j ∈ cov ops f k, listed.getD j false = true
  | 0, _, _, j, h => by simp [cov] at h
  | f + 1, k, hd, j, h => by
    unfold cov at h
    obtain ⟨i, hi, hj⟩ := List.mem_flatMap.1 h
    rcases List.mem_cons.1 hj with rfl | hj
    · exact hd _ hi
    · exact cov_listed hcl f i (hcl i (hd i hi)) j hj
theorem pre_inv {m : Nat} (hp : preB ops ds m a0.tmps.size = true) (hS : ∀ w, S1 w → S w) (hmono : ∀ i v w w', S1 w → S1 w' → Below w.heap.size w w' → Pr i v w → Pr i v w')
    (hstep : Steps P Q S1 Pr ds a0 0 (ops.toList.take m)) (hend : ∀ V w, S1 w → (∀ i d, ds[i]? = some d → Pr i (V i) w) → wpAnyH P .any ops Q S (ops.size - m) ((List.replicate m true) ++ (List.replicate (ops.size - m) false)).toArray (putL a0 ds V 0) w) :
    ∀ (fuel : Nat) (listed : Array Bool) (a : Act) (w : World) (V : Nat → Value), S1 w → listed.size = ops.size → (∀ i, m ≤ i → listed.getD i false = false) → (∀ i, listed.getD i false = true → ∀ j ∈ bnd ops i, listed.getD j false = true) → a.defers = a0.defers → a.tmps.size = a0.tmps.size →
      (∀ i d, ds[i]? = some d → listed.getD i false = true → a.tmps[d]? = some (V i) ∧ Pr i (V i) w) → (∀ s, (∀ i, ds[i]? = some s → listed.getD i false = false) → a.tmps[s]? = a0.tmps[s]?) →
      listed.toList.count false = fuel → wpAnyH P .any ops Q S fuel listed a w := by
  unfold preB at hp
  simp only [Bool.and_eq_true, decide_eq_true_eq] at hp
  obtain ⟨hm, hmo, hp1, hp2, hp3, hp4⟩ := hp
  have hlt : ∀ d ∈ ds, d < a0.tmps.size := fun d hd => by simpa using List.all_eq_true.1 hp4 d hd
  have hpl : ∀ (i : Nat) (o : Oper), i < m → ops[i]? = some o → o.guard = none ∧ o.dst = ds[i]? ∧ ∀ j ∈ bnd ops i, j < i := fun i o hi ho => by
    have h1 := List.all_eq_true.1 hp1 i (List.mem_range.2 hi)
    rw [ho] at h1
    simp only [Bool.and_eq_true, decide_eq_true_eq, Option.isNone_iff_eq_none] at h1
    exact ⟨h1.1.1, h1.1.2, fun j hj => by simpa using List.all_eq_true.1 h1.2 j hj⟩
  have hcase : ∀ (listed : Array Bool) (a : Act) (w : World) (V : Nat → Value) (fuel : Nat), S1 w → listed.size = ops.size → (∀ i, m ≤ i → listed.getD i false = false) → a.defers = a0.defers → a.tmps.size = a0.tmps.size →
      (∀ i d, ds[i]? = some d → listed.getD i false = true → a.tmps[d]? = some (V i) ∧ Pr i (V i) w) → (∀ s, (∀ i, ds[i]? = some s → listed.getD i false = false) → a.tmps[s]? = a0.tmps[s]?) →
      listed.toList.count false = fuel → (∀ i, i < m → listed.getD i false = true) → wpAnyH P .any ops Q S fuel listed a w := by
    intro listed a w V fuel hS1 hls hhi hdf hsz hV hO hc hall
    obtain ⟨p1, p2, p3, p4⟩ := putL_get ds a0 V 0 hp3 hlt
    have e : a = putL a0 ds V 0 := by
      have e1 : a.tmps = (putL a0 ds V 0).tmps := by
        refine Array.ext_getElem? fun s => ?_
        by_cases hs : s ∈ ds
        · obtain ⟨i, hi⟩ := List.mem_iff_getElem?.1 hs
          have hil : i < ds.length := (List.getElem?_eq_some_iff.1 hi).1
          rw [(hV i s hi (hall i (by omega))).1, p3 i s hi, Nat.zero_add]
        · rw [p4 s hs]
          exact hO s fun i hi => absurd (List.mem_of_getElem? hi) hs
      have e2 : a.defers = (putL a0 ds V 0).defers := hdf.trans p2.symm
      cases a
      cases hq : putL a0 ds V 0
      rw [hq] at e1 e2
      simp_all
    have el : listed = ((List.replicate m true) ++ (List.replicate (ops.size - m) false)).toArray := by
      refine Array.ext_getElem? fun i => ?_
      by_cases hi : i < listed.size
      · have h1 : listed[i]? = some (listed.getD i false) := by simp [Array.getD, hi]
        rw [h1]
        simp only [List.getElem?_toArray]
        by_cases him : i < m
        · rw [hall i him, List.getElem?_append_left (by simpa using him), List.getElem?_replicate, if_pos him]
        · rw [hhi i (by omega), List.getElem?_append_right (by simp; omega), List.getElem?_replicate, if_pos (by simp; omega)]
      · rw [Array.getElem?_eq_none (by omega)]
        symm
        simp only [List.getElem?_toArray]
        exact List.getElem?_eq_none (by simp; omega)
    have ef : fuel = ops.size - m := by
      rw [← hc, el]
      simp [List.count_replicate]
    rw [e, el, ef]
    exact hend V w hS1 fun i d hi => (hV i d hi (hall i (by have := (List.getElem?_eq_some_iff.1 hi).1; omega))).2
  intro fuel
  induction fuel with
  | zero =>
    intro listed a w V hS1 hls hhi hcl hdf hsz hV hO hc
    refine hcase listed a w V 0 hS1 hls hhi hdf hsz hV hO hc fun i hi => ?_
    cases hb : listed.getD i false with
    | true => rfl
    | false =>
      exfalso
      have h2 : i < listed.size := by omega
      have h3 : listed[i] = false := by simpa [Array.getD, h2] using hb
      have hm2 : false ∈ listed.toList := by rw [← h3]; simp
      have := List.count_pos_iff.2 hm2
      omega
  | succ fuel ih =>
    intro listed a w V hS1 hls hhi hcl hdf hsz hV hO hc
    by_cases hall : ∀ i, i < m → listed.getD i false = true
    · exact hcase listed a w V _ hS1 hls hhi hdf hsz hV hO hc hall
    have hno : ∀ i, i ∈ Region.ready .any ops listed → i < m := fun i hi => by
      rcases Nat.lt_or_ge i m with h | h
      · exact h
      · exfalso
        obtain ⟨hun, o, ho, hdeps⟩ := mem_ready.1 hi
        have hio : i < ops.size := (Array.getElem?_eq_some_iff.1 ho).1
        have hd : ∀ j ∈ bnd ops i, listed.getD j false = true := fun j hj => by
          obtain ⟨e, he, hb, rfl⟩ := of_bnd ho hj
          exact hdeps e he hb
        have h1 := List.all_eq_true.1 hp2 i (List.mem_range.2 hio)
        simp only [Bool.or_eq_true, decide_eq_true_eq] at h1
        rcases h1 with (h1 | h1) | h1
        · omega
        · obtain ⟨j, hj, h2⟩ := List.any_eq_true.1 h1
          simp only [Bool.and_eq_true, decide_eq_true_eq] at h2
          have := hd j hj
          rw [hhi j h2.1] at this
          cases this
        · refine hall fun k hk => ?_
          have h2 := List.all_eq_true.1 h1 k (List.mem_range.2 hk)
          exact cov_listed hcl _ i hd k (by simpa using h2)
    refine ⟨fun hr => ?_, fun i hi => ?_⟩
    · exfalso
      refine hall fun i => ?_
      induction i using Nat.strongRecOn with
      | _ i ihi =>
        intro hi
        cases hb : listed.getD i false with
        | true => rfl
        | false =>
          exfalso
          obtain ⟨o, ho⟩ : ∃ o, ops[i]? = some o := ⟨_, Array.getElem?_eq_getElem (by omega)⟩
          have hm : i ∈ Region.ready .any ops listed := by
            rw [mem_ready]
            refine ⟨?_, o, ho, fun e he hbn => ?_⟩
            · have h1 : i < listed.size := by omega
              simp [Array.getD, h1] at hb ⊢
              exact hb
            · have := (hpl i o hi ho).2.2 e.on (bnd_of ho he hbn)
              exact ihi e.on this (by omega)
          rw [hr] at hm
          cases hm
    have him := hno i hi
    obtain ⟨hun, o, ho, hdeps⟩ := mem_ready.1 hi
    obtain ⟨hgd, hod0, _⟩ := hpl i o him ho
    obtain ⟨d, hd⟩ : ∃ d, ds[i]? = some d := ⟨_, List.getElem?_eq_getElem (by omega)⟩
    have hod : o.dst = some d := hod0.trans hd
    have hil2 : i < listed.size := by omega
    have hun2 : listed.getD i false = false := by simpa [Array.getD, hil2] using hun
    have hst := Steps.at_ (ops.toList.take m) 0 i o hstep (by rw [List.getElem?_take, if_pos him]; simpa using ho)
    rw [Nat.zero_add] at hst
    unfold wpOp
    rw [ho]
    simp only []
    rw [show Region.wanted o (yielded ops a.tmps) = true from by unfold Region.wanted; rw [hgd]]
    rw [if_pos rfl]
    refine .inl (hst d hd a w hS1 (fun j dj he hj => ?_) (fun s hs => ?_) _ fun v w' hS' hb hv => ⟨hS w' hS', ?_⟩)
    · rw [← Array.any_toList] at he
      obtain ⟨e, hem0, heq⟩ := List.any_eq_true.1 he
      have hem : e ∈ o.after := by simpa using hem0
      simp only [Bool.and_eq_true, beq_iff_eq] at heq
      have hl := hdeps e hem heq.1
      rw [heq.2] at hl
      obtain ⟨h1, h2⟩ := hV j dj hj hl
      show Pr j (a.tmps.getD dj undef) w
      rw [show a.tmps.getD dj undef = V j from by rw [Array.getD_eq_getD_getElem?, h1]; rfl]
      exact h2
    · show a.tmps.getD s undef = a0.tmps.getD s undef
      rw [Array.getD_eq_getD_getElem?, Array.getD_eq_getD_getElem?, hO s fun i hi => absurd (List.mem_of_getElem? hi) hs]
    · have hget : ∀ k, (listed.setIfInBounds i true).getD k false = if k = i then true else listed.getD k false := fun k => by
        by_cases hki : k = i
        · subst hki
          simp [Array.getD_eq_getD_getElem?, hil2]
        · simp [Array.getD_eq_getD_getElem?, Ne.symm hki, hki]
      refine ih _ _ _ (fun k => if k = i then v else V k) hS' (by simpa using hls) ?_ ?_ ?_ ?_ ?_ ?_ ?_
      · intro k hk
        rw [hget, if_neg (by omega)]
        exact hhi k hk
      · intro k hk j hj
        rw [hget] at hk ⊢
        by_cases hji : j = i
        · rw [if_pos hji]
        · rw [if_neg hji]
          by_cases hki : k = i
          · subst hki
            obtain ⟨e, he, hb, rfl⟩ := of_bnd ho hj
            exact hdeps e he hb
          · rw [if_neg hki] at hk
            exact hcl k hk j hj
      · rw [hod]; exact hdf
      · rw [hod, put_size]; exact hsz
      · intro k dk hk hkl
        rw [hod, put_get]
        by_cases hki : k = i
        · subst hki
          rw [hd] at hk
          injection hk with hk
          subst hk
          rw [if_pos ⟨rfl, by rw [hsz]; exact hlt d (List.mem_of_getElem? hd)⟩]
          simp only [if_pos]
          exact ⟨trivial, hv⟩
        · have hne : ¬ dk = d := by
            rintro rfl
            exact hki ((List.getElem?_inj (List.getElem?_eq_some_iff.1 hk).1 hp3).1 (hk.trans hd.symm))
          rw [if_neg (by rintro ⟨h, _⟩; exact hne h)]
          simp only [if_neg hki]
          rw [hget, if_neg hki] at hkl
          obtain ⟨h1, h2⟩ := hV k dk hk hkl
          exact ⟨h1, hmono k _ w w' hS1 hS' hb h2⟩
      · intro s hs
        have hsd : ¬ s = d := by
          rintro rfl
          have := hs i hd
          rw [hget, if_pos rfl] at this
          cases this
        rw [hod, put_get, if_neg (by rintro ⟨h, _⟩; exact hsd h)]
        refine hO s fun k hk => ?_
        have h1 := hs k hk
        rw [hget] at h1
        by_cases hki : k = i
        · subst hki; exact hun2
        · rwa [if_neg hki] at h1
      · have h1 : listed.toList[i]? = some false := by
          rw [Array.getElem?_toList, Array.getElem?_eq_getElem hil2]
          simpa [Array.getD, hil2] using hun2
        have h2 := cnt_set listed.toList i h1
        rw [Array.toList_setIfInBounds]
        omega
/-- The beginning of such a region: S holds all along, S1 (nothing old changes) while the first m operations come up. -/
theorem pre_go {id m : Nat} {w : World} (S : World → World → Prop) (Pr : Nat → Value → World → Prop) (ds : List Tmp) (hm : P.follows .mixedOrders = true) (hp : preB ops ds m a0.tmps.size = true)
    (hS : ∀ x W, Below w.heap.size w x → Below x.heap.size x W → S x W)
    (hmono : ∀ i v w w', Below w.heap.size w w' → Pr i v w → Pr i v w')
    (hstep : ∀ x, Below w.heap.size w x → Steps P Q (fun W => Below x.heap.size x W) Pr ds a0 0 (ops.toList.take m))
    (hend : ∀ x V W, Below w.heap.size w x → Below x.heap.size x W → (∀ i d, ds[i]? = some d → Pr i (V i) W) → wpAnyH P .any ops Q (S x) (ops.size - m) ((List.replicate m true) ++ (List.replicate (ops.size - m) false)).toArray (putL a0 ds V 0) W) : (Code.region id ops true).wp P Q a0 w := by
  have hx : Below w.heap.size w w.drew := (Below.refl w.heap.size w).drew
  refine wp_region_held_drew (S := S w.drew) hm (hS _ _ hx (Below.refl _ _)) fun _ => ?_
  refine pre_inv (S1 := fun W => Below w.drew.heap.size w.drew W) hp (fun W hW => hS _ _ hx hW) (fun i v w w' _ _ hb h => hmono i v w w' hb h) (hstep _ hx) (fun V W hW h => hend _ V W hx hW h) ops.size _ a0 w.drew (fun _ => undef) (Below.refl _ _) (by simp) ?_ ?_ rfl rfl ?_ (fun s _ => rfl) ?_
  · intro i _
    by_cases h : i < ops.size
    · simp [Array.getD_eq_getD_getElem?, h]
    · simp [Array.getD_eq_getD_getElem?, h]
  · intro i hi
    exfalso
    by_cases h : i < ops.size
    · simp [Array.getD_eq_getD_getElem?, h] at hi
    · simp [Array.getD_eq_getD_getElem?, h] at hi
  · intro i d hd hl
    exfalso
    by_cases h : i < ops.size
    · simp [Array.getD_eq_getD_getElem?, h] at hl
    · simp [Array.getD_eq_getD_getElem?, h] at hl
  · simp
end
end Go.Proofs.Ytldaijkcmnnjpaa
