/- Regions whose bytes are written over; the walk of MemoryReads. Each states its conditions. -/
import Derived.Test.YtponceakelimeaaMem16
import Derived.Test.YtponceakelimeaaMemOpen
namespace Go.Proofs.Ytponceakelimeaa
open Go.RowKit Wire
set_option linter.unusedVariables false

/-- Bytes that a call has made and may write, whatever they are. -/
def Byt (w : World) (B : Nat) (A : Option Addr) (m : Nat) : Prop :=
  m = 0 ∨ ∃ (g : Nat) (cur : Array Value) (lo hi : Nat), A = some ⟨g, 0, none⟩ ∧ B ≤ g ∧ w.heap[g]? = some (.cells cur 5 (lo, hi)) ∧ (m ≤ lo ∨ hi = 0) ∧ ∀ j : Nat, j < m → ∃ x : Int, cur[j]? = some (.int .u8 x)
theorem OwU.byt {w : World} {B n : Nat} {A : Option Addr} {l : List UInt8} (h : OwU w B A n l) : Byt w B A n := by
  rcases h.2 with ⟨_, h0⟩ | ⟨g, cur, lo, hi, h1, h2, h3, h4, h5⟩
  · exact .inl h0
  · exact .inr ⟨g, cur, lo, hi, h1, h2, h3, h4, fun j hj => by
      have hl : j < l.length := by rw [h.1]; exact hj
      exact ⟨_, h5 j l[j] (List.getElem?_eq_getElem hl)⟩⟩
theorem Byt.at_ {w : World} {B m j : Nat} {A : Option Addr} (h : Byt w B A m) (hj : j < m) :
    ∃ (ad : Addr) (x : Int), A = some ad ∧ B ≤ ad.block ∧ w.cell? (ad.add j) = some (.int .u8 x) ∧ w.frozen? (ad.add j) = false ∧ ∃ cur fz, w.heap[ad.block]? = some (.cells cur 5 fz) := by
  rcases h with h | ⟨g, cur, lo, hi, h1, h2, h3, h4, h5⟩
  · omega
  · obtain ⟨x, hx⟩ := h5 j hj
    refine ⟨_, x, h1, h2, ?_, ?_, _, _, h3⟩
    · rw [add_zero_at, cell_of_row w g j cur 5 (lo, hi) h3]; exact hx
    · rw [add_zero_at]
      simp only [World.frozen?, h3]
      rcases h4 with h4 | h4
      · have : decide (lo ≤ j) = false := decide_eq_false (by omega)
        rw [this]; rfl
      · subst h4; simp
theorem heap_set (w : World) (a : Addr) (v : Value) (g : Nat) : (w.setCell a v).heap[g]? = if a.block = g then (w.heap[g]?).map (fun
      | .cells c elem frozen => .cells (if a.spot.isSome then c else c.setIfInBounds a.off v) elem frozen
      | o => o) else w.heap[g]? := by
  simp [World.setCell, Array.getElem?_modify]
  split <;> first | rfl | simp_all
theorem Byt.set {w : World} {B m : Nat} {A : Option Addr} (h : Byt w B A m) (a : Addr) (y : Int) : Byt (w.setCell a (.int .u8 y)) B A m := by
  rcases h with h | ⟨g, cur, lo, hi, h1, h2, h3, h4, h5⟩
  · exact .inl h
  · by_cases hg : a.block = g
    · refine .inr ⟨g, if a.spot.isSome then cur else cur.setIfInBounds a.off (.int .u8 y), lo, hi, h1, h2, by rw [heap_set, if_pos hg, h3]; rfl, h4, fun j hj => ?_⟩
      obtain ⟨x, hx⟩ := h5 j hj
      split
      · exact ⟨x, hx⟩
      · rw [Array.getElem?_setIfInBounds]
        split
        · next he =>
          subst he
          have hlt : a.off < cur.size := (Array.getElem?_eq_some_iff.1 hx).1
          exact ⟨y, by simp [hlt]⟩
        · exact ⟨x, hx⟩
    · exact .inr ⟨g, cur, lo, hi, h1, h2, by rw [heap_set, if_neg hg]; exact h3, h4, h5⟩
/-- Regions in a row of the call's own, the bytes of each as above. -/
def XRow (w : World) (B : Nat) (A : Option Addr) (n c : Nat) (vs : List (List Value)) : Prop :=
  vs.length = n ∧ (∀ u ∈ vs, u.length = 2) ∧ w.ownsRow B 25 2 (.slice A n c) n vs.flatten ∧
    ∀ k, k < n → ∃ b Ai m ci, vs[k]? = some [b, .slice Ai m ci] ∧ m ≤ 9223372036854775807 ∧ Byt w B Ai m
theorem XRow.set {w : World} {B n c : Nat} {A : Option Addr} {vs : List (List Value)} (h : XRow w B A n c vs) {a : Addr} (ht : ∃ cur fz, w.heap[a.block]? = some (.cells cur 5 fz)) (y : Int) : XRow (w.setCell a (.int .u8 y)) B A n c vs := by
  obtain ⟨h1, h2, h3, h4⟩ := h
  refine ⟨h1, h2, own_set_ (fun e => ?_) h3 _, fun k hk => ?_⟩
  · obtain ⟨cur, fz, ht⟩ := ht
    rcases h3.2 with ⟨hv, _⟩ | ⟨g, cap, cur', hv, _, hh, _⟩
    · rw [hv] at e; simp [Value.ownBlock] at e
    · rw [hv] at e
      simp [Value.ownBlock] at e
      subst e
      have := hh.symm.trans ht
      simp at this
  · obtain ⟨b, Ai, m, ci, g1, g2, g3⟩ := h4 k hk
    exact ⟨b, Ai, m, ci, g1, g2, g3.set a y⟩
theorem XRow.at_ {w : World} {B n c k : Nat} {ad : Addr} {vs : List (List Value)} (h : XRow w B (some ad) n c vs) (hk : k < n) :
    ∃ b Ai m ci, w.cell? (ad.add (k * 2)) = some b ∧ w.cell? (ad.add (k * 2 + 1)) = some (.slice Ai m ci) ∧ vs[k]? = some [b, .slice Ai m ci] ∧ m ≤ 9223372036854775807 ∧ Byt w B Ai m := by
  obtain ⟨h1, h2, h3, h4⟩ := h
  obtain ⟨b, Ai, m, ci, g1, g2, g3⟩ := h4 k hk
  obtain ⟨ad', e, hb, hc⟩ := (Reads.of_own h3).2 (by omega)
  injection e with e
  subst e
  obtain ⟨f1, f2⟩ := flat2_get h2 g1
  exact ⟨b, Ai, m, ci, hc _ _ f1, hc _ _ f2, g1, g2, g3⟩
theorem own_pair {w : World} {base g : Nat} (hb : base ≤ w.heap.size) (hg : w.heap.size = g) (u v : Value) (e : TypeId) : (w.alloc (.cells #[u, v] e)).ownsRow base e 2 (.slice (some ⟨g, 0, none⟩) 1 1) 1 [u, v] := by
  subst hg
  exact ⟨rfl, .inr ⟨w.heap.size, 1, #[u, v], rfl, hb, heap_alloc_new w _, Nat.le_refl _, by unfold maxLen; omega, rfl, rfl⟩⟩
theorem XRow.mk_ {w w' : World} {B H n c bz ch : Nat} {A A' Ah : Option Addr} {c' m : Nat} {hl : List UInt8} {L : List (Nat × List UInt8)} {v : Value} (hv : OwV w B H A n c L)
    (ho : OwU w B Ah hl.length hl) (hcap : hl.length ≤ 9223372036854775807) (hown : w.ownsRow B 25 2 v m [.int .u64 (bz : Int), .slice Ah hl.length ch]) (hg : w.grownBy w' v.ownBlock) :
    ∀ vs : List (List Value), vs.length = n → (∀ u ∈ vs, u.length = 2) → (∀ (k : Nat) (p : Nat × List UInt8), L[k]? = some p → ∃ Ai ci, vs[k]? = some [.int .u64 (p.1 : Int), .slice Ai p.2.length ci] ∧ OwU w B Ai p.2.length p.2 ∧ (∀ g, (Value.slice Ai p.2.length ci).ownBlock = some g → g < H) ∧ (p.2.length ≤ ci ∧ ci ≤ 9223372036854775807) ∧ p.1 < 18446744073709551616) →
      w'.ownsRow B 25 2 (.slice A' (1 + n) c') (1 + n) ([.int .u64 (bz : Int), .slice Ah hl.length ch] ++ vs.flatten) → XRow w' B A' (1 + n) c' ([.int .u64 (bz : Int), .slice Ah hl.length ch] :: vs) := by
  intro vs h2 h3 h5 hn
  have hne : 5 ≠ 25 := by decide
  refine ⟨by simp [h2]; omega, fun u hu => ?_, by simpa using hn, fun k hk => ?_⟩
  · rcases List.mem_cons.1 hu with rfl | hu
    · rfl
    · exact h3 u hu
  · rcases k with _ | k
    · exact ⟨_, Ah, _, ch, rfl, hcap, (ho.grow hown hne hg).byt⟩
    · have hL : k < L.length := by rw [hv.1]; omega
      obtain ⟨Ai, ci, g1, g2, _, g4, _⟩ := h5 k L[k] (List.getElem?_eq_getElem hL)
      exact ⟨_, Ai, _, ci, by simpa using g1, by omega, (g2.grow hown hne hg).byt⟩
theorem rsL_len (l : List UInt8) : (rsL l).length ≤ 16 := by
  cases h : rsB l
  · rw [(rsb_no h).1]; simp
  · have h2 := h
    simp only [rsB, Bool.and_eq_true] at h2
    rw [(rsb_yes h).1]
    exact (stB_bd h2.2.2.2).1

set_option maxRecDepth 100000 in
set_option maxHeartbeats 8000000 in
theorem memoryReads_walk (w : World) (A : Option Addr) (n c : Nat) (l : List UInt8) (hr : Rb w A n l) (hc : n ≤ c ∧ c ≤ 9223372036854775807) :
    Calls Try.prog 5 #[.slice A n c] w fun e w' => e = .returned (.bool true) ∧ Below w.heap.size w w' := by
  have hl := hr.len8
  subst hl
  by_cases hn : 20000 < l.length
  · go_enter Try.func5, Try.ntmps5
    go_wp2_with fail
    go_ret
    exact ⟨rfl, Below.refl _ _⟩
  have d0 : decide ((l.length : Int) > 20000) = false := by rw [decide_eq_false_iff_not]; omega
  have HR := Lib.hid hr
  obtain ⟨S, hS⟩ : ∃ S : ByteArray, S = ⟨l.toArray⟩ := ⟨_, rfl⟩
  have hSl : S.data.toList = l := by rw [hS]
  have hSs : S.size = l.length := by rw [← hSl]; simp
  have HS1 := Lib.hid (show ∀ W B A, OwU W B A S.size S.data.toList → Rb W A S.size l from fun W B A h => by rw [hSl] at h; exact h.rd)
  have HS := Lib.hid hS
  obtain ⟨bz, hbz⟩ : ∃ bz, rhN l = bz := ⟨_, rfl⟩
  obtain ⟨H, hH⟩ : ∃ H, rhL l = H := ⟨_, rfl⟩
  obtain ⟨ee, hee⟩ : ∃ ee, rhE l = ee := ⟨_, rfl⟩
  obtain ⟨L, hL⟩ : ∃ L, rsL l = L := ⟨_, rfl⟩
  obtain ⟨es, hes⟩ : ∃ es, rsE l = es := ⟨_, rfl⟩
  have hL16 : L.length ≤ 16 := by rw [← hL]; exact rsL_len l
  have HH := Lib.hid (And.intro hbz (And.intro hH hee))
  have HL := Lib.hid (And.intro hL hes)
  clear hbz hH hee hL hes hSl hS
  have hSn : S.size ≤ 200000 := by omega
  have HSs := Lib.hid hSs
  clear hSs
  have hB := Below.refl w.heap.size w
  go_enter Try.func5, Try.ntmps5
  have K1 : (convert 23 9 (.slice A l.length c)).run Try.prog w = .ok (.string S) w := by rw [HS.out]; exact cvS c hr
  go_wp2_with fail
  clear K1
  with_reducible refine (readHeap_any A l.length c l _ (HR.out.mv hB) (by omega)).mono ?_
  rintro e w1 ⟨A1, c1, rfl, o1, hc_o1, b⟩
  rw [HH.out.2.1] at o1 hc_o1 ⊢
  rw [HH.out.1, HH.out.2.2]
  replace o1 := OwU.low o1 (show w.heap.size ≤ _ from by have hs_ := hB.size; simp <;> omega)
  replace hB := Below.via (w := w) (by have hs_ := hB.size; repeat (first | with_reducible exact hB | with_reducible (refine Below.setCell ?_ (by simp <;> omega) _) | with_reducible (refine Below.alloc ?_ (by first | exact hs_ | (simp <;> omega)) _) | with_reducible (refine Below.drew ?_))) b
  clear b
  go_wp2_with (refine wpList_to_own rfl (.tmp 26) rfl S rfl (by unfold maxLen; omega) ?_; intro B1 d1 v1 p1 b hc_p1; have ne_p1_k4 : (Value.slice B1 S.size d1).ownBlock ≠ some w1.heap.size := OwU.not_lt p1 (by first | omega | (simp <;> omega)); replace p1 := OwU.low p1 (show w.heap.size ≤ _ from (by have hs_ := hB.size; simp <;> omega)); have ne_o1_k4 : (Value.slice A1 H.length c1).ownBlock ≠ some w1.heap.size := OwU.not_ge o1 (by omega); have ow_k4 : w.heap.size ≤ w1.heap.size := (by have := hB.size; omega); replace o1 := OwU.call (by repeat (first | with_reducible exact o1 | (with_reducible apply OwU.setOther; case hne => first | skip) | with_reducible (apply OwU.al) | with_reducible (apply OwU.drew))) b; have k4 := Blk.via0 (g := w1.heap.size) (t := 25) b (by repeat (first | with_reducible exact Blk.newAt (by simp) _ _ | with_reducible (apply Blk.set_) | with_reducible (apply Blk.far; case hp => (simp <;> omega)) | with_reducible (apply Blk.alloc) | with_reducible (apply Blk.drew))); replace k4 : Blk v1 w1.heap.size 25 #[.int .u64 (bz : Int), .slice A1 H.length c1] := k4; replace hB := Below.via (w := w) (by have hs_ := hB.size; repeat (first | with_reducible exact hB | with_reducible (refine Below.setCell ?_ (by simp <;> omega) _) | with_reducible (refine Below.alloc ?_ (by first | exact hs_ | (simp <;> omega)) _) | with_reducible (refine Below.drew ?_))) b; clear b; generalize w1.heap.size = p4 at *; have z1 : v1.cell? ⟨p4, 0, none⟩ = some (.int .u64 (bz : Int)) := (k4.cell 0).trans rfl; have z2 := k4.frozen 0; have z3 : v1.cell? ⟨p4, 1, none⟩ = some (.slice A1 H.length c1) := (k4.cell 1).trans rfl; have z4 := k4.frozen 1; have z5 := k4.lt)
  with_reducible refine (rreadHeap_any B1 S.size d1 l _ (HS1.out _ _ _ p1) (by have := HSs.out; omega) (by omega)).mono ?_
  rintro e w2 ⟨A2, c2, rfl, o2, hc_o2, b⟩
  rw [HH.out.2.1] at o2 hc_o2 ⊢
  rw [HH.out.1, HH.out.2.2]
  have ne_o2_k4 : (Value.slice A2 H.length c2).ownBlock ≠ some p4 := OwU.not_lt o2 (by first | omega | (simp <;> omega))
  replace o2 := OwU.low o2 (show w.heap.size ≤ _ from by have hs_ := hB.size; simp <;> omega)
  replace k4 := Blk.via0 (g := p4) (t := 25) b (by repeat (first | with_reducible exact k4 | with_reducible (apply Blk.set_) | with_reducible (apply Blk.far; case hp => (simp <;> omega)) | with_reducible (apply Blk.alloc) | with_reducible (apply Blk.drew)))
  replace k4 : Blk w2 p4 25 #[.int .u64 (bz : Int), .slice A1 H.length c1] := k4
  replace o1 := OwU.call (by repeat (first | with_reducible exact o1 | (with_reducible apply OwU.setOther; case hne => first | exact ne_o1_k4) | with_reducible (apply OwU.al) | with_reducible (apply OwU.drew))) b
  replace p1 := OwU.call (by repeat (first | with_reducible exact p1 | (with_reducible apply OwU.setOther; case hne => first | exact ne_p1_k4) | with_reducible (apply OwU.al) | with_reducible (apply OwU.drew))) b
  replace hB := Below.via (w := w) (by have hs_ := hB.size; repeat (first | with_reducible exact hB | with_reducible (refine Below.setCell ?_ (by simp <;> omega) _) | with_reducible (refine Below.alloc ?_ (by first | exact hs_ | (simp <;> omega)) _) | with_reducible (refine Below.drew ?_))) b
  clear z1 z2 z3 z4 z5
  clear b
  have z6 := k4.lt
  go_wp2_with fail
  with_reducible refine (readStacks_any A l.length c l _ (HR.out.mv (by have hs_ := hB.size; repeat (first | with_reducible exact hB | with_reducible (refine Below.setCell ?_ (by simp <;> omega) _) | with_reducible (refine Below.alloc ?_ (by first | exact hs_ | (simp <;> omega)) _) | with_reducible (refine Below.drew ?_)))) (by omega)).mono ?_
  rintro e w3 ⟨A3, c3, rfl, o3, b⟩
  rw [HL.out.1] at o3 ⊢
  rw [HL.out.2]
  replace o3 := o3.low (show w.heap.size ≤ _ from by have hs_ := hB.size; simp <;> omega)
  have ne_o1_k6 : (Value.slice A1 H.length c1).ownBlock ≠ some w2.heap.size := OwU.not_ge o1 (by omega)
  have ne_p1_k6 : (Value.slice B1 S.size d1).ownBlock ≠ some w2.heap.size := OwU.not_ge p1 (by omega)
  have ne_o2_k6 : (Value.slice A2 H.length c2).ownBlock ≠ some w2.heap.size := OwU.not_ge o2 (by omega)
  have o_k4_k6 : p4 < w2.heap.size := (by omega)
  have ow_k6 : w.heap.size ≤ w2.heap.size := (by have := hB.size; omega)
  replace k4 := Blk.via0 (g := p4) (t := 25) b (by repeat (first | with_reducible exact k4 | with_reducible (apply Blk.set_) | with_reducible (apply Blk.far; case hp => (simp <;> omega)) | with_reducible (apply Blk.alloc) | with_reducible (apply Blk.drew)))
  replace k4 : Blk w3 p4 25 #[.int .u64 (bz : Int), .slice A1 H.length c1] := k4
  replace o1 := OwU.call (by repeat (first | with_reducible exact o1 | (with_reducible apply OwU.setOther; case hne => first | exact ne_o1_k4) | with_reducible (apply OwU.al) | with_reducible (apply OwU.drew))) b
  replace p1 := OwU.call (by repeat (first | with_reducible exact p1 | (with_reducible apply OwU.setOther; case hne => first | exact ne_p1_k4) | with_reducible (apply OwU.al) | with_reducible (apply OwU.drew))) b
  replace o2 := OwU.call (by repeat (first | with_reducible exact o2 | (with_reducible apply OwU.setOther; case hne => first | exact ne_o2_k4) | with_reducible (apply OwU.al) | with_reducible (apply OwU.drew))) b
  have k6 := Blk.via0 (g := w2.heap.size) (t := 25) b (by repeat (first | with_reducible exact Blk.newAt (by simp) _ _ | with_reducible (apply Blk.set_) | with_reducible (apply Blk.far; case hp => (simp <;> omega)) | with_reducible (apply Blk.alloc) | with_reducible (apply Blk.drew)))
  replace k6 : Blk w3 w2.heap.size 25 #[.int .u64 (bz : Int), .slice A2 H.length c2] := k6
  replace hB := Below.via (w := w) (by have hs_ := hB.size; repeat (first | with_reducible exact hB | with_reducible (refine Below.setCell ?_ (by simp <;> omega) _) | with_reducible (refine Below.alloc ?_ (by first | exact hs_ | (simp <;> omega)) _) | with_reducible (refine Below.drew ?_))) b
  clear z6
  clear b
  generalize w2.heap.size = p6 at *
  have z7 := k4.lt
  have z8 := k6.lt
  go_wp2_with (refine wpList_to_own rfl (.tmp 37) rfl S rfl (by unfold maxLen; omega) ?_; intro B3 d3 v3 p3 b hc_p3; have ne_p3_k4 : (Value.slice B3 S.size d3).ownBlock ≠ some p4 := OwU.not_lt p3 (by first | omega | (simp <;> omega)); have ne_p3_k6 : (Value.slice B3 S.size d3).ownBlock ≠ some p6 := OwU.not_lt p3 (by first | omega | (simp <;> omega)); replace p3 := OwU.low p3 (show w.heap.size ≤ _ from (by have hs_ := hB.size; simp <;> omega)); replace k4 := Blk.via0 (g := p4) (t := 25) b (by repeat (first | with_reducible exact k4 | with_reducible (apply Blk.set_) | with_reducible (apply Blk.far; case hp => (simp <;> omega)) | with_reducible (apply Blk.alloc) | with_reducible (apply Blk.drew))); replace k4 : Blk v3 p4 25 #[.int .u64 (bz : Int), .slice A1 H.length c1] := k4; replace k6 := Blk.via0 (g := p6) (t := 25) b (by repeat (first | with_reducible exact k6 | with_reducible (apply Blk.set_) | with_reducible (apply Blk.far; case hp => (simp <;> omega)) | with_reducible (apply Blk.alloc) | with_reducible (apply Blk.drew))); replace k6 : Blk v3 p6 25 #[.int .u64 (bz : Int), .slice A2 H.length c2] := k6; replace o1 := OwU.call (by repeat (first | with_reducible exact o1 | (with_reducible apply OwU.setOther; case hne => first | exact ne_o1_k4 | exact ne_o1_k6) | with_reducible (apply OwU.al) | with_reducible (apply OwU.drew))) b; replace p1 := OwU.call (by repeat (first | with_reducible exact p1 | (with_reducible apply OwU.setOther; case hne => first | exact ne_p1_k4 | exact ne_p1_k6) | with_reducible (apply OwU.al) | with_reducible (apply OwU.drew))) b; replace o2 := OwU.call (by repeat (first | with_reducible exact o2 | (with_reducible apply OwU.setOther; case hne => first | exact ne_o2_k4 | exact ne_o2_k6) | with_reducible (apply OwU.al) | with_reducible (apply OwU.drew))) b; replace o3 := OwV.call (by repeat (first | with_reducible exact o3 | (with_reducible apply OwV.setOut; case hp => (simp <;> omega)) | with_reducible (apply OwV.al) | with_reducible (apply OwV.drew))) b; replace hB := Below.via (w := w) (by have hs_ := hB.size; repeat (first | with_reducible exact hB | with_reducible (refine Below.setCell ?_ (by simp <;> omega) _) | with_reducible (refine Below.alloc ?_ (by first | exact hs_ | (simp <;> omega)) _) | with_reducible (refine Below.drew ?_))) b; clear z7 z8; clear b; have z9 : v3.cell? ⟨p4, 0, none⟩ = some (.int .u64 (bz : Int)) := (k4.cell 0).trans rfl; have z10 := k4.frozen 0; have z11 : v3.cell? ⟨p4, 1, none⟩ = some (.slice A1 H.length c1) := (k4.cell 1).trans rfl; have z12 := k4.frozen 1; have z13 : v3.cell? ⟨p6, 0, none⟩ = some (.int .u64 (bz : Int)) := (k6.cell 0).trans rfl; have z14 := k6.frozen 0; have z15 : v3.cell? ⟨p6, 1, none⟩ = some (.slice A2 H.length c2) := (k6.cell 1).trans rfl; have z16 := k6.frozen 1; have z17 := k4.lt; have z18 := k6.lt)
  with_reducible refine (rreadStacks_any B3 S.size d3 l _ (HS1.out _ _ _ p3) (by have := HSs.out; omega) (by omega)).mono ?_
  rintro e w4 ⟨A4, c4, rfl, o4, b⟩
  rw [HL.out.1] at o4 ⊢
  rw [HL.out.2]
  replace o4 := o4.low (show w.heap.size ≤ _ from by have hs_ := hB.size; simp <;> omega)
  replace k4 := Blk.via0 (g := p4) (t := 25) b (by repeat (first | with_reducible exact k4 | with_reducible (apply Blk.set_) | with_reducible (apply Blk.far; case hp => (simp <;> omega)) | with_reducible (apply Blk.alloc) | with_reducible (apply Blk.drew)))
  replace k4 : Blk w4 p4 25 #[.int .u64 (bz : Int), .slice A1 H.length c1] := k4
  replace k6 := Blk.via0 (g := p6) (t := 25) b (by repeat (first | with_reducible exact k6 | with_reducible (apply Blk.set_) | with_reducible (apply Blk.far; case hp => (simp <;> omega)) | with_reducible (apply Blk.alloc) | with_reducible (apply Blk.drew)))
  replace k6 : Blk w4 p6 25 #[.int .u64 (bz : Int), .slice A2 H.length c2] := k6
  replace o1 := OwU.call (by repeat (first | with_reducible exact o1 | (with_reducible apply OwU.setOther; case hne => first | exact ne_o1_k4 | exact ne_o1_k6) | with_reducible (apply OwU.al) | with_reducible (apply OwU.drew))) b
  replace p1 := OwU.call (by repeat (first | with_reducible exact p1 | (with_reducible apply OwU.setOther; case hne => first | exact ne_p1_k4 | exact ne_p1_k6) | with_reducible (apply OwU.al) | with_reducible (apply OwU.drew))) b
  replace o2 := OwU.call (by repeat (first | with_reducible exact o2 | (with_reducible apply OwU.setOther; case hne => first | exact ne_o2_k4 | exact ne_o2_k6) | with_reducible (apply OwU.al) | with_reducible (apply OwU.drew))) b
  replace o3 := OwV.call (by repeat (first | with_reducible exact o3 | (with_reducible apply OwV.setOut; case hp => (simp <;> omega)) | with_reducible (apply OwV.al) | with_reducible (apply OwV.drew))) b
  replace p3 := OwU.call (by repeat (first | with_reducible exact p3 | (with_reducible apply OwU.setOther; case hne => first | exact ne_p3_k4 | exact ne_p3_k6) | with_reducible (apply OwU.al) | with_reducible (apply OwU.drew))) b
  replace hB := Below.via (w := w) (by have hs_ := hB.size; repeat (first | with_reducible exact hB | with_reducible (refine Below.setCell ?_ (by simp <;> omega) _) | with_reducible (refine Below.alloc ?_ (by first | exact hs_ | (simp <;> omega)) _) | with_reducible (refine Below.drew ?_))) b
  clear z9 z10 z11 z12 z13 z14 z15 z16 z17 z18
  clear b
  have z19 : w4.cell? ⟨p4, 0, none⟩ = some (.int .u64 (bz : Int)) := (k4.cell 0).trans rfl
  have z20 := k4.frozen 0
  have z21 : w4.cell? ⟨p4, 1, none⟩ = some (.slice A1 H.length c1) := (k4.cell 1).trans rfl
  have z22 := k4.frozen 1
  have z23 : w4.cell? ⟨p6, 0, none⟩ = some (.int .u64 (bz : Int)) := (k6.cell 0).trans rfl
  have z24 := k6.frozen 0
  have z25 : w4.cell? ⟨p6, 1, none⟩ = some (.slice A2 H.length c2) := (k6.cell 1).trans rfl
  have z26 := k6.frozen 1
  have z27 := k4.lt
  have z28 := k6.lt
  go_wp2_with fail
  with_reducible refine (sameRegion_any bz A1 H.length c1 H bz A2 H.length c2 H _ o1.rd o2.rd).mono ?_
  rintro e w5 ⟨rfl, b⟩
  rw [show smR (bz, H) (bz, H) = true from smR_iff.2 rfl]
  replace k4 := Blk.via0 (g := p4) (t := 25) b (by repeat (first | with_reducible exact k4 | with_reducible (apply Blk.set_) | with_reducible (apply Blk.far; case hp => (simp <;> omega)) | with_reducible (apply Blk.alloc) | with_reducible (apply Blk.drew)))
  replace k4 : Blk w5 p4 25 #[.int .u64 (bz : Int), .slice A1 H.length c1] := k4
  replace k6 := Blk.via0 (g := p6) (t := 25) b (by repeat (first | with_reducible exact k6 | with_reducible (apply Blk.set_) | with_reducible (apply Blk.far; case hp => (simp <;> omega)) | with_reducible (apply Blk.alloc) | with_reducible (apply Blk.drew)))
  replace k6 : Blk w5 p6 25 #[.int .u64 (bz : Int), .slice A2 H.length c2] := k6
  replace o1 := OwU.call (by repeat (first | with_reducible exact o1 | (with_reducible apply OwU.setOther; case hne => first | exact ne_o1_k4 | exact ne_o1_k6) | with_reducible (apply OwU.al) | with_reducible (apply OwU.drew))) b
  replace p1 := OwU.call (by repeat (first | with_reducible exact p1 | (with_reducible apply OwU.setOther; case hne => first | exact ne_p1_k4 | exact ne_p1_k6) | with_reducible (apply OwU.al) | with_reducible (apply OwU.drew))) b
  replace o2 := OwU.call (by repeat (first | with_reducible exact o2 | (with_reducible apply OwU.setOther; case hne => first | exact ne_o2_k4 | exact ne_o2_k6) | with_reducible (apply OwU.al) | with_reducible (apply OwU.drew))) b
  replace o3 := OwV.call (by repeat (first | with_reducible exact o3 | (with_reducible apply OwV.setOut; case hp => (simp <;> omega)) | with_reducible (apply OwV.al) | with_reducible (apply OwV.drew))) b
  replace p3 := OwU.call (by repeat (first | with_reducible exact p3 | (with_reducible apply OwU.setOther; case hne => first | exact ne_p3_k4 | exact ne_p3_k6) | with_reducible (apply OwU.al) | with_reducible (apply OwU.drew))) b
  replace o4 := OwV.call (by repeat (first | with_reducible exact o4 | (with_reducible apply OwV.setOut; case hp => (simp <;> omega)) | with_reducible (apply OwV.al) | with_reducible (apply OwV.drew))) b
  replace hB := Below.via (w := w) (by have hs_ := hB.size; repeat (first | with_reducible exact hB | with_reducible (refine Below.setCell ?_ (by simp <;> omega) _) | with_reducible (refine Below.alloc ?_ (by first | exact hs_ | (simp <;> omega)) _) | with_reducible (refine Below.drew ?_))) b
  clear z19 z20 z21 z22 z23 z24 z25 z26 z27 z28
  clear b
  have z29 : w5.cell? ⟨p4, 0, none⟩ = some (.int .u64 (bz : Int)) := (k4.cell 0).trans rfl
  have z30 := k4.frozen 0
  have z31 : w5.cell? ⟨p4, 1, none⟩ = some (.slice A1 H.length c1) := (k4.cell 1).trans rfl
  have z32 := k4.frozen 1
  have z33 : w5.cell? ⟨p6, 0, none⟩ = some (.int .u64 (bz : Int)) := (k6.cell 0).trans rfl
  have z34 := k6.frozen 0
  have z35 : w5.cell? ⟨p6, 1, none⟩ = some (.slice A2 H.length c2) := (k6.cell 1).trans rfl
  have z36 := k6.frozen 1
  have z37 := k4.lt
  have z38 := k6.lt
  go_wp2_with fail
  with_reducible refine (sameRegions_any A3 L.length c3 L A4 L.length c4 L _ o3.rd o4.rd (by omega)).mono ?_
  rintro e w6 ⟨rfl, b⟩
  rw [decide_eq_true (rfl : L = L)]
  replace k4 := Blk.via0 (g := p4) (t := 25) b (by repeat (first | with_reducible exact k4 | with_reducible (apply Blk.set_) | with_reducible (apply Blk.far; case hp => (simp <;> omega)) | with_reducible (apply Blk.alloc) | with_reducible (apply Blk.drew)))
  replace k4 : Blk w6 p4 25 #[.int .u64 (bz : Int), .slice A1 H.length c1] := k4
  replace k6 := Blk.via0 (g := p6) (t := 25) b (by repeat (first | with_reducible exact k6 | with_reducible (apply Blk.set_) | with_reducible (apply Blk.far; case hp => (simp <;> omega)) | with_reducible (apply Blk.alloc) | with_reducible (apply Blk.drew)))
  replace k6 : Blk w6 p6 25 #[.int .u64 (bz : Int), .slice A2 H.length c2] := k6
  replace o1 := OwU.call (by repeat (first | with_reducible exact o1 | (with_reducible apply OwU.setOther; case hne => first | exact ne_o1_k4 | exact ne_o1_k6) | with_reducible (apply OwU.al) | with_reducible (apply OwU.drew))) b
  replace p1 := OwU.call (by repeat (first | with_reducible exact p1 | (with_reducible apply OwU.setOther; case hne => first | exact ne_p1_k4 | exact ne_p1_k6) | with_reducible (apply OwU.al) | with_reducible (apply OwU.drew))) b
  replace o2 := OwU.call (by repeat (first | with_reducible exact o2 | (with_reducible apply OwU.setOther; case hne => first | exact ne_o2_k4 | exact ne_o2_k6) | with_reducible (apply OwU.al) | with_reducible (apply OwU.drew))) b
  replace o3 := OwV.call (by repeat (first | with_reducible exact o3 | (with_reducible apply OwV.setOut; case hp => (simp <;> omega)) | with_reducible (apply OwV.al) | with_reducible (apply OwV.drew))) b
  replace p3 := OwU.call (by repeat (first | with_reducible exact p3 | (with_reducible apply OwU.setOther; case hne => first | exact ne_p3_k4 | exact ne_p3_k6) | with_reducible (apply OwU.al) | with_reducible (apply OwU.drew))) b
  replace o4 := OwV.call (by repeat (first | with_reducible exact o4 | (with_reducible apply OwV.setOut; case hp => (simp <;> omega)) | with_reducible (apply OwV.al) | with_reducible (apply OwV.drew))) b
  replace hB := Below.via (w := w) (by have hs_ := hB.size; repeat (first | with_reducible exact hB | with_reducible (refine Below.setCell ?_ (by simp <;> omega) _) | with_reducible (refine Below.alloc ?_ (by first | exact hs_ | (simp <;> omega)) _) | with_reducible (refine Below.drew ?_))) b
  clear z29 z30 z31 z32 z33 z34 z35 z36 z37 z38
  clear b
  have z39 : w6.cell? ⟨p4, 0, none⟩ = some (.int .u64 (bz : Int)) := (k4.cell 0).trans rfl
  have z40 := k4.frozen 0
  have z41 : w6.cell? ⟨p4, 1, none⟩ = some (.slice A1 H.length c1) := (k4.cell 1).trans rfl
  have z42 := k4.frozen 1
  have z43 := k4.lt
  have z44 := k6.lt
  have o1e := o1.al (.cells #[.int .u64 (bz : Int), .slice A1 H.length c1] 25)
  have o3e := o3.al (.cells #[.int .u64 (bz : Int), .slice A1 H.length c1] 25)
  have hBe := hB.alloc hB.size (.cells #[.int .u64 (bz : Int), .slice A1 H.length c1] 25)
  have hpe := own_pair (e := 25) (g := w6.heap.size) hB.size rfl (.int .u64 (bz : Int)) (.slice A1 H.length c1)
  have o3f := o3e
  obtain ⟨v1, vh, vl, vs, v2, v3, v4, v5⟩ := o3e
  go_wp2_with (at_builtin; refine wpList_app rfl (.tmp 63) (.tmp 64) _ rfl slRG w.heap.size _ 1 _ rfl hpe _ A3 L.length c3 vs.flatten rfl (Reads.of_own v4) (by intro u hu; obtain ⟨u1, h1, h2⟩ := List.mem_flatten.1 hu; exact (v3 u1 h1).2 u h2) (by omega) hBe.size ?_; intro A8 c8 w8 o8 hg8 b8 hc8; have hx8 := XRow.mk_ o3f o1e (by omega) hpe hg8 vs v2 (fun u hu => (v3 u hu).1) v5 o8; have hB8 := hBe.trans b8)
  clear z39 z40 z41 z42 z43 z44
  have hc8 := own_cap o8
  unfold maxLen at hc8
  obtain ⟨ad, rfl⟩ : ∃ ad, A8 = some ad := by
    obtain ⟨ad, e, _⟩ := (Reads.of_own o8).2 (by omega)
    exact ⟨ad, e⟩
  obtain ⟨n8, hn8⟩ : ∃ n8, 1 + L.length = n8 := ⟨_, rfl⟩
  rw [hn8] at hx8 hc8 ⊢
  generalize [Value.int IntKind.u64 (bz : Int), Value.slice A1 H.length c1] :: vs = us at hx8
  clear hn8 o8 hpe o1e hBe v1 vh vl v2 v3 v4 v5 o3f hg8 b8 k4 k6 o1 o2 o3 o4 p1 p3 hB
  go_loopw [13] (fun i wr => ∃ k : Nat, k ≤ n8 ∧ i = .int .i64 (k : Int) ∧ XRow wr w.heap.size (some ad) n8 c8 us ∧ Below w.heap.size w wr) (fun i _ => n8 - (intOf i).toNat)
  case atStart => exact ⟨0, by omega, rfl, hx8, hB8⟩
  case round =>
    obtain ⟨k, hk, rfl, hx, hB⟩ := hrel
    by_cases hlt : k < n8
    · go_wp2_with fail
      obtain ⟨b0, Ai0, m, ci0, _, _, hu0, hm0, _⟩ := hx.at_ hlt
      have HU0 := Lib.hid hu0
      clear hu0
      go_loopw [14] (fun i wr => ∃ j : Nat, j ≤ m ∧ i = .int .i64 (j : Int) ∧ XRow wr w.heap.size (some ad) n8 c8 us ∧ Below w.heap.size w wr) (fun i _ => m - (intOf i).toNat)
      case atStart => exact ⟨0, by omega, rfl, hx, hB⟩
      case round =>
        clear hx hB
        obtain ⟨j, hj, rfl, hx, hB⟩ := hrel
        obtain ⟨b1, Ai, m1, ci, e0, e1, hu, _, hby⟩ := hx.at_ hlt
        obtain ⟨rfl, rfl, rfl, rfl⟩ : b1 = b0 ∧ Ai = Ai0 ∧ m1 = m ∧ ci = ci0 := by
          have h := HU0.out.symm.trans hu
          simp at h
          exact ⟨h.1.symm, h.2.1.symm, h.2.2.1.symm, h.2.2.2.symm⟩
        clear hu
        have e2 : wr.cell? { block := (ad.add (k * 2)).block, off := (ad.add (k * 2)).off + 1 } = some (.slice Ai m1 ci) := by
          have e : ({ block := (ad.add (k * 2)).block, off := (ad.add (k * 2)).off + 1 } : Addr) = ad.add (k * 2 + 1) := by simp [Addr.add]; split <;> simp <;> omega
          rw [e]; exact e1
        by_cases hjm : j < m1
        · obtain ⟨a2, x, rfl, hb2, hc2, hf2, ht2⟩ := hby.at_ hjm
          go_wp2_with fail
          go_roundw
          case rel => exact ⟨j + 1, by omega, by go_num, hx.set (by rw [block_of_add]; exact ht2) _, hB.setCell (by rw [block_of_add]; exact hb2) _⟩
          case measure => simp [intOf]; omega
        · go_wp2_with fail
          go_roundw
          case rel => exact ⟨k + 1, by omega, by go_num, hx, hB⟩
          case measure => simp [intOf]; omega
    · have K1 : (convert 23 9 (.slice A l.length c)).run Try.prog wr = .ok (.string S) wr := by rw [HS.out]; exact cvS c (HR.out.mv hB)
      go_wp2_with fail
      go_ret
      exact ⟨by simp, hB⟩

end Go.Proofs.Ytponceakelimeaa
