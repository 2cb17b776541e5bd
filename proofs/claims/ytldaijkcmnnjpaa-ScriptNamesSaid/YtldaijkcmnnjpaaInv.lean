/- A region that draws its order, whatever order comes up: each operation's value by a fact that lasts, each operation once. Laws over any program; no conditions beyond those that each one states. -/
import Derived.Test.YtldaijkcmnnjpaaRegion
import Derived.Test.YtldaijkcmnnjpaaSlice
import Derived.Great.BuildSlice
import Derived.OwnWalk
namespace Go.Proofs.Ytldaijkcmnnjpaa
open Go.RowKit
set_option linter.unusedVariables false

/-- A frame behind some operations, their values in a list's order. -/
def putL (a : Act) : List Tmp → (Nat → Value) → Nat → Act
  | [], _, _ => a
  | d :: ds, V, k => putL (a.put (some d) (V k)) ds V (k + 1)
theorem put_get (a : Act) (d : Tmp) (v : Value) (s : Nat) : (a.put (some d) v).tmps[s]? = if s = d ∧ d < a.tmps.size then some v else a.tmps[s]? := by
  simp only [Act.put, Array.getElem?_setIfInBounds]
  by_cases h : d = s
  · subst h
    by_cases h2 : d < a.tmps.size
    · simp [h2]
    · simp [h2]
  · rw [if_neg h, if_neg (by rintro ⟨h1, _⟩; exact h h1.symm)]
theorem put_size (a : Act) (d : Tmp) (v : Value) : (a.put (some d) v).tmps.size = a.tmps.size := by simp [Act.put]
theorem putL_get : ∀ (ds : List Tmp) (a : Act) (V : Nat → Value) (k : Nat), ds.Nodup → (∀ d ∈ ds, d < a.tmps.size) →
    (putL a ds V k).tmps.size = a.tmps.size ∧ (putL a ds V k).defers = a.defers ∧ (∀ (i : Nat) (d : Tmp), ds[i]? = some d → (putL a ds V k).tmps[d]? = some (V (k + i))) ∧ (∀ s, s ∉ ds → (putL a ds V k).tmps[s]? = a.tmps[s]?)
  | [], a, V, k, _, _ => ⟨rfl, rfl, fun i d h => by simp at h, fun s _ => rfl⟩
  | d :: ds, a, V, k, hn, hl => by
    have hn2 := List.nodup_cons.1 hn
    obtain ⟨h1, h2, h3, h4⟩ := putL_get ds (a.put (some d) (V k)) V (k + 1) hn2.2 (fun x hx => by rw [put_size]; exact hl x (List.mem_cons_of_mem _ hx))
    have hd := hl d List.mem_cons_self
    refine ⟨h1.trans (put_size _ _ _), h2.trans rfl, fun i x hx => ?_, fun s hs => ?_⟩
    · cases i with
      | zero =>
        simp at hx
        subst hx
        show (putL (a.put (some d) (V k)) ds V (k + 1)).tmps[d]? = _
        rw [h4 d hn2.1, put_get, if_pos ⟨rfl, hd⟩, Nat.add_zero]
      | succ i =>
        simp at hx
        show (putL (a.put (some d) (V k)) ds V (k + 1)).tmps[x]? = _
        rw [h3 i x hx, show k + 1 + i = k + (i + 1) from by omega]
    · show (putL (a.put (some d) (V k)) ds V (k + 1)).tmps[s]? = _
      simp at hs
      rw [h4 s hs.2, put_get, if_neg (by rintro ⟨h, _⟩; exact hs.1 h)]
theorem cnt_set : ∀ (l : List Bool) (i : Nat), l[i]? = some false → (l.set i true).count false + 1 = l.count false
  | [], i, h => by simp at h
  | b :: l, 0, h => by simp at h; subst h; simp
  | b :: l, i + 1, h => by
    simp at h
    have := cnt_set l i h
    simp only [List.set_cons_succ, List.count_cons]
    omega
section
variable {P : Program} {ops : Array Oper} {Q : Exit → Act → World → Prop} {S : World → Prop} {Pr : Nat → Value → World → Prop} {ds : List Tmp} {a0 : Act}
/-- What an operation must do: from any frame in which those that it waits for have their values. -/
def StepOk (P : Program) (Q : Exit → Act → World → Prop) (S : World → Prop) (Pr : Nat → Value → World → Prop) (ds : List Tmp) (a0 : Act) (i : Nat) (o : Oper) : Prop :=
  ∀ d, ds[i]? = some d → ∀ a w, S w → (∀ j dj, (o.after.any fun e => Region.binds .any e && (e.on == j)) = true → ds[j]? = some dj → Pr j (a.eval (.tmp dj)) w) → (∀ s, s ∉ ds → a.eval (.tmp s) = a0.eval (.tmp s)) →
    ∀ K : Act → World → Prop, (∀ v w', S w' → Below w.heap.size w w' → Pr i v w' → K (a.put o.dst v) w') → o.wp P a w K Q
def Steps (P : Program) (Q : Exit → Act → World → Prop) (S : World → Prop) (Pr : Nat → Value → World → Prop) (ds : List Tmp) (a0 : Act) : Nat → List Oper → Prop
  | _, [] => True
  | i, o :: os => StepOk P Q S Pr ds a0 i o ∧ Steps P Q S Pr ds a0 (i + 1) os
theorem Steps.cons {i : Nat} {o : Oper} {os : List Oper} (h : StepOk P Q S Pr ds a0 i o) (h2 : Steps P Q S Pr ds a0 (i + 1) os) : Steps P Q S Pr ds a0 i (o :: os) := ⟨h, h2⟩
theorem Steps.at_ : ∀ (os : List Oper) (k i : Nat) (o : Oper), Steps P Q S Pr ds a0 k os → os[i]? = some o → StepOk P Q S Pr ds a0 (k + i) o
  | [], k, i, o, _, h => by simp at h
  | x :: os, k, 0, o, hs, h => by simp at h; subst h; exact hs.1
  | x :: os, k, i + 1, o, hs, h => by
    simp at h
    have := Steps.at_ os (k + 1) i o hs.2 h
    rwa [show k + 1 + i = k + (i + 1) from by omega] at this
/-- The order's edges point backwards, no guards, the places as told. -/
def plainB (ops : Array Oper) (ds : List Tmp) (n : Nat) : Bool :=
  (ops.toList.zipIdx.all fun p => p.1.guard.isNone && p.1.after.all fun e => !Region.binds .any e || decide (e.on < p.2)) && (decide (ops.toList.map (·.dst) = ds.map some) && (decide ds.Nodup && ds.all fun d => decide (d < n)))
theorem any_inv (hp : plainB ops ds a0.tmps.size = true) (hmono : ∀ i v w w', S w → S w' → Below w.heap.size w w' → Pr i v w → Pr i v w')
    (hstep : Steps P Q S Pr ds a0 0 ops.toList) (hend : ∀ V w, S w → (∀ i d, ds[i]? = some d → Pr i (V i) w) → Q .normal (putL a0 ds V 0) w) :
    ∀ (fuel : Nat) (listed : Array Bool) (a : Act) (w : World) (V : Nat → Value), S w → listed.size = ds.length → a.defers = a0.defers → a.tmps.size = a0.tmps.size →
      (∀ i d, ds[i]? = some d → listed.getD i false = true → a.tmps[d]? = some (V i) ∧ Pr i (V i) w) → (∀ s, (∀ i, ds[i]? = some s → listed.getD i false = false) → a.tmps[s]? = a0.tmps[s]?) →
      listed.toList.count false ≤ fuel → wpAnyH P .any ops Q S fuel listed a w := by
  unfold plainB at hp
  simp only [Bool.and_eq_true, decide_eq_true_eq] at hp
  obtain ⟨hp1, hp2, hp3, hp4⟩ := hp
  have hlt : ∀ d ∈ ds, d < a0.tmps.size := fun d hd => by simpa using List.all_eq_true.1 hp4 d hd
  have hlen : ops.size = ds.length := by
    have := congrArg List.length hp2
    simpa using this
  have hdst : ∀ (i : Nat) (o : Oper), ops[i]? = some o → ∃ d, ds[i]? = some d ∧ o.dst = some d := fun i o ho => by
    have h1 := congrArg (fun l : List (Option Tmp) => l[i]?) hp2
    simp only [List.getElem?_map, Array.getElem?_toList, ho, Option.map_some] at h1
    cases hd : ds[i]? with
    | none => rw [hd] at h1; simp at h1
    | some d => rw [hd] at h1; simp at h1; exact ⟨d, rfl, h1⟩
  have hpl : ∀ (i : Nat) (o : Oper), ops[i]? = some o → o.guard = none ∧ ∀ e ∈ o.after, Region.binds .any e = true → e.on < i := fun i o ho => by
    have hm : (o, i) ∈ ops.toList.zipIdx := by
      rw [List.mem_zipIdx_iff_getElem?]
      simpa using ho
    have h1 := List.all_eq_true.1 hp1 (o, i) hm
    simp only [Bool.and_eq_true, Option.isNone_iff_eq_none] at h1
    refine ⟨h1.1, fun e he hb => ?_⟩
    have h2 := (Array.all_eq_true_iff_forall_mem.1 h1.2) e he
    simpa [hb] using h2
  have hdone : ∀ (listed : Array Bool) (a : Act) (w : World) (V : Nat → Value), S w → listed.size = ds.length → a.defers = a0.defers → a.tmps.size = a0.tmps.size →
      (∀ i d, ds[i]? = some d → listed.getD i false = true → a.tmps[d]? = some (V i) ∧ Pr i (V i) w) → (∀ s, (∀ i, ds[i]? = some s → listed.getD i false = false) → a.tmps[s]? = a0.tmps[s]?) →
      Region.ready .any ops listed = [] → Q .normal a w := by
    intro listed a w V hS hls hdf hsz hV hO hr
    have hall : ∀ i, i < ds.length → listed.getD i false = true := by
      intro i
      induction i using Nat.strongRecOn with
      | _ i ih =>
        intro hi
        cases hb : listed.getD i false with
        | true => rfl
        | false =>
          exfalso
          obtain ⟨o, ho⟩ : ∃ o, ops[i]? = some o := ⟨_, Array.getElem?_eq_getElem (by omega)⟩
          have hm : i ∈ Region.ready .any ops listed := by
            rw [mem_ready]
            refine ⟨?_, o, ho, fun e he hbn => ih e.on ((hpl i o ho).2 e he hbn) (by have := (hpl i o ho).2 e he hbn; omega)⟩
            have h1 : i < listed.size := by omega
            simp [Array.getD, h1] at hb ⊢
            exact hb
          rw [hr] at hm
          cases hm
    obtain ⟨p1, p2, p3, p4⟩ := putL_get ds a0 V 0 hp3 hlt
    have e : a = putL a0 ds V 0 := by
      have e1 : a.tmps = (putL a0 ds V 0).tmps := by
        refine Array.ext_getElem? fun s => ?_
        by_cases hs : s ∈ ds
        · obtain ⟨i, hi⟩ := List.mem_iff_getElem?.1 hs
          have hil : i < ds.length := (List.getElem?_eq_some_iff.1 hi).1
          rw [(hV i s hi (hall i hil)).1, p3 i s hi, Nat.zero_add]
        · rw [p4 s hs]
          exact hO s fun i hi => absurd (List.mem_of_getElem? hi) hs
      have e2 : a.defers = (putL a0 ds V 0).defers := hdf.trans p2.symm
      cases a
      cases hq : putL a0 ds V 0
      rw [hq] at e1 e2
      simp_all
    rw [e]
    exact hend V w hS fun i d hi => (hV i d hi (hall i (List.getElem?_eq_some_iff.1 hi).1)).2
  intro fuel
  induction fuel with
  | zero =>
    intro listed a w V hS hls hdf hsz hV hO hc
    have hr : Region.ready .any ops listed = [] := by
      refine List.eq_nil_iff_forall_not_mem.2 fun i hi => ?_
      have h1 := (mem_ready.1 hi).1
      by_cases h2 : i < listed.size
      · have : listed[i] = false := by simpa [Array.getD, h2] using h1
        have hm : false ∈ listed.toList := by rw [← this]; simp
        have := List.count_pos_iff.2 hm
        omega
      · simp [Array.getD, h2] at h1
    exact ⟨hr, hdone listed a w V hS hls hdf hsz hV hO hr⟩
  | succ fuel ih =>
    intro listed a w V hS hls hdf hsz hV hO hc
    refine ⟨hdone listed a w V hS hls hdf hsz hV hO, fun i hi => ?_⟩
    obtain ⟨hun, o, ho, hdeps⟩ := mem_ready.1 hi
    obtain ⟨d, hd, hod⟩ := hdst i o ho
    have hil : i < ds.length := (List.getElem?_eq_some_iff.1 hd).1
    have hil2 : i < listed.size := by omega
    have hun2 : listed.getD i false = false := by simpa [Array.getD, hil2] using hun
    have hst := Steps.at_ ops.toList 0 i o hstep (by simpa using ho)
    rw [Nat.zero_add] at hst
    unfold wpOp
    rw [ho]
    simp only []
    rw [show Region.wanted o (yielded ops a.tmps) = true from by unfold Region.wanted; rw [(hpl i o ho).1]]
    rw [if_pos rfl]
    refine .inl (hst d hd a w hS (fun j dj he hj => ?_) (fun s hs => ?_) _ fun v w' hS' hb hv => ⟨hS', ?_⟩)
    · rw [← Array.any_toList] at he
      obtain ⟨e, hem0, heq⟩ := List.any_eq_true.1 he
      have hem : e ∈ o.after := by simpa using hem0
      simp only [Bool.and_eq_true, beq_iff_eq] at heq
      have hl := hdeps e hem heq.1
      rw [heq.2] at hl
      obtain ⟨h1, h2⟩ := hV j dj hj hl
      show Pr j (a.tmps.getD dj undef) w
      have h3 : dj < a.tmps.size := (Array.getElem?_eq_some_iff.1 h1).1
      rw [show a.tmps.getD dj undef = V j from by rw [Array.getD_eq_getD_getElem?, h1]; rfl]
      exact h2
    · show a.tmps.getD s undef = a0.tmps.getD s undef
      rw [Array.getD_eq_getD_getElem?, Array.getD_eq_getD_getElem?, hO s fun i hi => absurd (List.mem_of_getElem? hi) hs]
    · refine ih _ _ _ (fun k => if k = i then v else V k) hS' (by simpa using hls) ?_ ?_ ?_ ?_ ?_
      · rw [hod]; exact hdf
      · rw [hod, put_size]; exact hsz
      · intro k dk hk hkl
        rw [hod, put_get]
        by_cases hki : k = i
        · subst hki
          rw [hd] at hk
          injection hk with hk
          subst hk
          rw [if_pos ⟨rfl, by rw [hsz]; exact hlt d (List.mem_of_getElem? hd)⟩]
          simp only [if_pos]
          exact ⟨trivial, hv⟩
        · have hne : ¬ dk = d := by
            rintro rfl
            exact hki (((List.getElem?_inj (List.getElem?_eq_some_iff.1 hk).1 hp3).1 (hk.trans hd.symm)))
          rw [if_neg (by rintro ⟨h, _⟩; exact hne h)]
          simp only [if_neg hki]
          have hl2 : listed.getD k false = true := by
            simpa [Array.getD_eq_getD_getElem?, Array.getElem?_setIfInBounds, Ne.symm hki] using hkl
          obtain ⟨h1, h2⟩ := hV k dk hk hl2
          exact ⟨h1, hmono k _ w w' hS hS' hb h2⟩
      · intro s hs
        have hsd : ¬ s = d := by
          rintro rfl
          have := hs i hd
          simp [Array.getD_eq_getD_getElem?, hil2] at this
        rw [hod, put_get, if_neg (by rintro ⟨h, _⟩; exact hsd h)]
        refine hO s fun k hk => ?_
        have h1 := hs k hk
        by_cases hki : k = i
        · subst hki; exact hun2
        · simpa [Array.getD_eq_getD_getElem?, Array.getElem?_setIfInBounds, Ne.symm hki] using h1
      · have h1 : listed.toList[i]? = some false := by
          rw [Array.getElem?_toList, Array.getElem?_eq_getElem hil2]
          simpa [Array.getD, hil2] using hun2
        have h2 := cnt_set listed.toList i h1
        rw [Array.toList_setIfInBounds]
        omega
/-- A region that draws its order and makes memory, whatever order comes up. -/
theorem inv_go {id : Nat} {w : World} (Pr : Nat → Value → World → Prop) (ds : List Tmp) (hm : P.follows .mixedOrders = true) (hp : plainB ops ds a0.tmps.size = true)
    (hmono : ∀ i v w w', Below w.heap.size w w' → Pr i v w → Pr i v w')
    (hstep : ∀ x, Below w.heap.size w x → Steps P Q (fun W => Below x.heap.size x W) Pr ds a0 0 ops.toList)
    (hend : ∀ V W, Below w.heap.size w W → (∀ i d, ds[i]? = some d → Pr i (V i) W) → Q .normal (putL a0 ds V 0) W) : (Code.region id ops true).wp P Q a0 w := by
  have hx : Below w.heap.size w w.drew := (Below.refl w.heap.size w).drew
  refine wp_region_held_drew (S := fun W => Below w.drew.heap.size w.drew W) hm (Below.refl _ _) fun hS => ?_
  have hlen : ops.size = ds.length := by
    unfold plainB at hp
    simp only [Bool.and_eq_true, decide_eq_true_eq] at hp
    have := congrArg List.length hp.2.1
    simpa using this
  refine any_inv hp (fun i v w w' _ _ hb h => hmono i v w w' hb h) (hstep _ hx) (fun V W hW h => hend V W (hx.trans (hW.mono hx.size)) h) ops.size _ a0 w.drew (fun _ => undef) (Below.refl _ _) (by simp [hlen]) rfl rfl ?_ (fun s _ => rfl) ?_
  · intro i d hd hl
    have : i < ops.size := by rw [hlen]; exact (List.getElem?_eq_some_iff.1 hd).1
    simp [Array.getD_eq_getD_getElem?, this] at hl
  · rw [Array.toList_replicate]
    exact Nat.le_trans List.count_le_length (by simp)
end
theorem wp_mk {P : Program} {o : Oper} {a : Act} {w : World} {K : Act → World → Prop} {Q : Exit → Act → World → Prop} (l c : Operand) {t e : TypeId} {z : Value} {size bytes : Nat} (hop : o.op = Op.makeSlice t l c)
    (hsl : IsSl P t e z size bytes) (n : Nat) {kl kc : IntKind} {L C : Int} (hl : a.eval l = .int kl L) (hc : a.eval c = .int kc C) (hL : L = (n : Int)) (hC : C = (n : Int)) (hn : n * bytes ≤ 140737488355328)
    (hK : ∀ w', w'.ownsRow w.heap.size e size (.slice (some ⟨w.heap.size, 0, none⟩) n n) n (madeCells z.cells (n * size)).toList → Below w.heap.size w w' → K (a.put o.dst (.slice (some ⟨w.heap.size, 0, none⟩) n n)) w') : o.wp P a w K Q := by
  obtain ⟨i0, hi0, hz0, hz1, hz2⟩ := info_parts hsl.hi
  have h1 : n ≤ n * bytes := Nat.le_mul_of_pos_right _ hsl.hb
  obtain ⟨w', hrun, r1, r2⟩ := run_make_full (P := P) w w.heap.size t e i0 z size hsl.ht hi0 hz0 hz1 kl kc n (by rw [hz2, Nat.mul_comm]; omega) (by unfold maxLen; omega) (Nat.le_refl _)
  subst hL
  subst hC
  unfold Oper.wp
  simp [execOp, hop, hl, hc, hrun, Result.andThen]
  exact hK w' r1 ((Below.refl w.heap.size w).grown r2 (Nat.le_refl _) (fun k h => by cases h))
end Go.Proofs.Ytldaijkcmnnjpaa
