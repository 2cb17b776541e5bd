/- The contracts of Slots and of SameInts. Each states its conditions. -/
import Derived.Test.YtkhdeoihjnpnaaaOps4
import Derived.BigQuiet
namespace Go.Proofs.Ytkhdeoihjnpnaaa
open Go.RowKit Wire
set_option linter.unusedVariables false

def vI (x : Int) : Value := .int .i64 x
/-- A slice of ints that reads as a list. -/
abbrev RdI (w : World) (B : Nat) (A : Option Addr) (n : Nat) (l : List Int) : Prop := Reads w B 1 A n (l.map vI)
theorem Reads.lenI {w : World} {B n : Nat} {A : Option Addr} {l : List Int} (h : RdI w B A n l) : l.length = n := by simpa using h.1
theorem Reads.int {w : World} {B n : Nat} {A : Option Addr} {l : List Int} (h : RdI w B A n l) {k : Nat} (hk : k < n) : ∃ ad z, A = some ad ∧ ad.block < B ∧ l[k]? = some z ∧ w.cell? (ad.add k) = some (.int .i64 z) := by
  obtain ⟨ad, u, rfl, hb, hx, hc⟩ := h.at_ hk
  have hl : k < l.length := by rw [h.lenI]; exact hk
  rw [List.getElem?_map, List.getElem?_eq_getElem hl] at hx
  simp at hx
  exact ⟨ad, l[k], rfl, hb, List.getElem?_eq_getElem hl, by rw [hc, ← hx]; rfl⟩
theorem getI {w W : World} {B : Nat} {ad : Addr} {j : Nat} {z : Int} (hc : w.cell? (ad.add j) = some (.int .i64 z)) (hb : ad.block < B) (h : Below B w W) : W.cell? (ad.add j) = some (.int .i64 z) :=
  (h.cell (by rw [block_of_add]; exact hb)).trans hc
theorem eq_upto {l m : List Int} {j : Nat} {x y : Int} (h1 : l[j]? = some x) (h2 : m[j]? = some y) (h : l.take j = m.take j) : x = y → l.take (j + 1) = m.take (j + 1) := by
  intro e; rw [take_succ_of h1, take_succ_of h2, h, e]
theorem ne_at {l m : List Int} {j : Nat} {x y : Int} (h1 : l[j]? = some x) (h2 : m[j]? = some y) (h : x ≠ y) : l ≠ m := by
  rintro rfl; rw [h1] at h2; injection h2 with h2; exact h h2

set_option maxRecDepth 100000 in
set_option maxHeartbeats 3200000 in
theorem sameInts_any (A : Option Addr) (n c : Nat) (l : List Int) (A2 : Option Addr) (m d : Nat) (l2 : List Int) (w : World) (hr : RdI w w.heap.size A n l) (hs : RdI w w.heap.size A2 m l2) (hn : n ≤ 9223372036854775807) :
    Calls Try.prog 12 #[.slice A n c, .slice A2 m d] w fun e w' => e = .returned (.bool (decide (l = l2))) ∧ Below w.heap.size w w' := by
  have HL := Lib.hid hr.lenI
  have HM := Lib.hid hs.lenI
  have HR := Lib.hid hr
  have HS := Lib.hid hs
  clear hr hs
  by_cases hnm : n = m
  rotate_left
  · have HD := Lib.hid (show decide (l = l2) = false from by rw [decide_eq_false_iff_not]; rintro rfl; exact hnm (HL.out.symm.trans HM.out))
    have dn : ((n : Int) != (m : Int)) = true := by rw [bne_iff_ne]; omega
    go_enter Try.func12, Try.ntmps12
    go_wp2_with fail
    go_ret
    exact ⟨by rw [HD.out]; rfl, Below.refl _ _⟩
  subst hnm
  go_enter Try.func12, Try.ntmps12
  go_wp2_with fail
  go_loopw [5] (fun i wr => ∃ j : Nat, j ≤ n ∧ i = .int .i64 (j : Int) ∧ l.take j = l2.take j ∧ Below w.heap.size w wr) (fun i _ => n - (intOf i).toNat)
  case atStart => exact ⟨0, by omega, rfl, by simp, Below.refl _ _⟩
  case round =>
    obtain ⟨j, hj, rfl, ht, hB⟩ := hrel
    have HT := Lib.hid ht
    clear ht
    by_cases hlt : j < n
    · obtain ⟨ad, z, hA, hb, hz, hc⟩ := (HR.out.below hB).int hlt
      obtain ⟨ad2, y, hA2, hb2, hy, hc2⟩ := (HS.out.below hB).int hlt
      have HZ := Lib.hid (And.intro hz hy)
      subst hA hA2
      clear hz hy
      go_wp2_with fail
      refine nop_wp (ext_start (by kernel_rfl) calm_nop (fun hQ => ?_))
      have hB2 := hB.drew
      have hd1 : wr.drew.cell? (ad.add j) = some (.int .i64 z) := hc
      have hd2 : wr.drew.cell? (ad2.add j) = some (.int .i64 y) := hc2
      have X1 : ∀ W, Ext wr.drew W → W.cell? (ad.add j) = some (.int .i64 z) := fun W h => getI hd1 hb (Below.mono h hB2.size)
      have X2 : ∀ W, Ext wr.drew W → W.cell? (ad2.add j) = some (.int .i64 y) := fun W h => getI hd2 hb2 (Below.mono h hB2.size)
      have j0 : (0 : Int) ≤ (j : Int) := by omega
      have j1 : (j : Int) < (n : Int) := by omega
      clear hc hc2 hB hb hb2 hd1 hd2
      generalize wr.drew = x at *
      refine ext_take (i := 0) (oi := ?oia0) (v := ?va0) ?hia0 (by kernel_rfl) (by kernel_rfl) (by kernel_rfl) hQ ?hwa0 ?hya0 ?resta0
      case hia0 => simp only [List.getElem?_toArray, List.getElem?_cons_zero]; rfl
      case hwa0 => rfl
      case hya0 => intro W hW; go_simp; with_reducible rfl
      simp only [Act.put, List.setIfInBounds_toArray, List.set_cons_zero, List.set_cons_succ]
      refine ext_take (i := 1) (oi := ?oia1) (v := ?va1) ?hia1 (by kernel_rfl) (by kernel_rfl) (by kernel_rfl) hQ ?hwa1 ?hya1 ?resta1
      case hia1 => simp only [List.getElem?_toArray, List.getElem?_cons_zero, List.getElem?_cons_succ]; rfl
      case hwa1 => rfl
      case hya1 => intro W hW; go_simp; with_reducible rfl
      simp only [Act.put, List.setIfInBounds_toArray, List.set_cons_zero, List.set_cons_succ]
      refine ext_take (i := 2) (oi := ?oia2) (v := ?va2) ?hia2 (by kernel_rfl) (by kernel_rfl) (by kernel_rfl) hQ ?hwa2 ?hya2 ?resta2
      case hia2 => simp only [List.getElem?_toArray, List.getElem?_cons_zero, List.getElem?_cons_succ]; rfl
      case hwa2 => rfl
      case hya2 => intro W hW; go_simp; with_reducible rfl
      simp only [Act.put, List.setIfInBounds_toArray, List.set_cons_zero, List.set_cons_succ]
      refine ext_take (i := 3) (oi := ?oia3) (v := ?va3) ?hia3 (by kernel_rfl) (by kernel_rfl) (by kernel_rfl) hQ ?hwa3 ?hya3 ?resta3
      case hia3 => simp only [List.getElem?_toArray, List.getElem?_cons_zero, List.getElem?_cons_succ]; rfl
      case hwa3 => rfl
      case hya3 => intro W hW; go_simp; with_reducible rfl
      simp only [Act.put, List.setIfInBounds_toArray, List.set_cons_zero, List.set_cons_succ]
      refine ext_take (i := 4) (oi := ?oia4) (v := ?va4) ?hia4 (by kernel_rfl) (by kernel_rfl) (by kernel_rfl) hQ ?hwa4 ?hya4 ?resta4
      case hia4 => simp only [List.getElem?_toArray, List.getElem?_cons_zero, List.getElem?_cons_succ]; rfl
      case hwa4 => rfl
      case hya4 => intro W hW; go_simp; with_reducible rfl
      simp only [Act.put, List.setIfInBounds_toArray, List.set_cons_zero, List.set_cons_succ]
      refine ext_take (i := 5) (oi := ?oia5) (v := ?va5) ?hia5 (by kernel_rfl) (by kernel_rfl) (by kernel_rfl) hQ ?hwa5 ?hya5 ?resta5
      case hia5 => simp only [List.getElem?_toArray, List.getElem?_cons_zero, List.getElem?_cons_succ]; rfl
      case hwa5 => rfl
      case hya5 => intro W hW; go_simp; with_reducible rfl
      simp only [Act.put, List.setIfInBounds_toArray, List.set_cons_zero, List.set_cons_succ]
      refine ext_take (i := 6) (oi := ?oia6) (v := ?va6) ?hia6 (by kernel_rfl) (by kernel_rfl) (by kernel_rfl) hQ ?hwa6 ?hya6 ?resta6
      case hia6 => simp only [List.getElem?_toArray, List.getElem?_cons_zero, List.getElem?_cons_succ]; rfl
      case hwa6 => rfl
      case hya6 => intro W hW; go_simp; with_reducible rfl
      simp only [Act.put, List.setIfInBounds_toArray, List.set_cons_zero, List.set_cons_succ]
      refine ext_take (i := 7) (oi := ?oia7) (v := ?va7) ?hia7 (by kernel_rfl) (by kernel_rfl) (by kernel_rfl) hQ ?hwa7 ?hya7 ?resta7
      case hia7 => simp only [List.getElem?_toArray, List.getElem?_cons_zero, List.getElem?_cons_succ]; rfl
      case hwa7 => rfl
      case hya7 => intro W hW; go_simp; with_reducible rfl
      simp only [Act.put, List.setIfInBounds_toArray, List.set_cons_zero, List.set_cons_succ]
      refine ext_take (i := 8) (oi := ?oia8) (v := ?va8) ?hia8 (by kernel_rfl) (by kernel_rfl) (by kernel_rfl) hQ ?hwa8 ?hya8 ?resta8
      case hia8 => simp only [List.getElem?_toArray, List.getElem?_cons_zero, List.getElem?_cons_succ]; rfl
      case hwa8 => rfl
      case hya8 => intro W hW; go_simp; with_reducible rfl
      simp only [Act.put, List.setIfInBounds_toArray, List.set_cons_zero, List.set_cons_succ]
      refine wpAnyH_done (by kernel_rfl) ?_ _

      simp only [NoP]
      clear X1 X2
      by_cases hzy : z = y
      · have HN := Lib.hid (eq_upto HZ.out.1 HZ.out.2 HT.out hzy)
        have dz : (z != y) = false := by rw [hzy]; simp
        have HE := Lib.hid hzy
        clear hzy
        go_wp2_with fail
        go_roundw
        case rel => exact ⟨j + 1, by omega, by go_num, HN.out, hB2⟩
        case measure => simp [intOf]; omega
      · have HN := Lib.hid (show decide (l = l2) = false from by rw [decide_eq_false_iff_not]; exact ne_at HZ.out.1 HZ.out.2 hzy)
        have dz : (z != y) = true := by rw [bne_iff_ne]; exact hzy
        go_wp2_with fail
        go_ret
        exact ⟨by rw [HN.out]; rfl, hB2⟩
    · have HD := Lib.hid (show decide (l = l2) = true from by
        rw [decide_eq_true_eq, ← List.take_of_length_le (l := l) (i := j) (by rw [HL.out]; omega), HT.out, List.take_of_length_le (by rw [HM.out]; omega)])
      clear HT
      go_wp2_with fail
      go_ret
      exact ⟨by rw [HD.out]; rfl, hB⟩

/-- Two rows of a call's own that are not one block. -/
def Dj (u v : Value) : Prop := ∀ g, u.ownBlock = some g → v.ownBlock ≠ some g
theorem Dj.symm {u v : Value} (h : Dj u v) : Dj v u := fun g h1 h2 => h g h2 h1
theorem Dj.nil (v : Value) : Dj (.slice none 0 0) v := fun g h => by simp [Value.ownBlock] at h
theorem slI : IsSl Try.prog 24 3 (.int .i64 0) 1 8 := ⟨Try.underlying24, by kernel_rfl, rfl, by omega, by omega⟩
theorem wpList_appI {ops : Array Oper} {rest : List Oper} {o : Oper} {a : Act} {Q : Exit → Act → World → Prop} {w : World} (hgd : o.guard = none) (s x : Operand)
    (ho : o.op = .call { callee := .builtin .append, args := #[s, x], argTypes := #[24, 24] })
    (base : Nat) {A A2 Ax : Option Addr} {n c n2 c2 cx : Nat} {l l2 : List Int} {v : Int} (hs : a.eval s = .slice A n c) (hown : w.ownsRow base 3 1 (.slice A n c) n (l.map vI)) (hown2 : w.ownsRow base 3 1 (.slice A2 n2 c2) n2 (l2.map vI)) (hd : Dj (.slice A n c) (.slice A2 n2 c2))
    (hx : a.eval x = .slice Ax 1 cx) (hr : RdI w w.heap.size Ax 1 [v]) (hn : n ≤ 1000) (hbase : base ≤ w.heap.size)
    (h : ∀ A' c' w', w'.ownsRow base 3 1 (.slice A' (n + 1) c') (n + 1) ((l ++ [v]).map vI) → w'.ownsRow base 3 1 (.slice A2 n2 c2) n2 (l2.map vI) → Dj (.slice A' (n + 1) c') (.slice A2 n2 c2) → Below base w w' → wpList Try.prog ops Q rest (a.put o.dst (.slice A' (n + 1) c')) w') : wpList Try.prog ops Q (o :: rest) a w := by
  obtain ⟨i0, hi0, hz0, hz1, hz2⟩ := info_parts slI.hi
  refine wpList_append_any w hgd s x 24 ho base 3 i0 (.int .i64 0) 1 8 slI.ht hi0 hz0 hz1 hz2 rfl (by omega) _ n _ hs hown _ Ax 1 cx _ hx hr (by intro u hu; simp at hu; subst hu; rfl) (by unfold maxLen; omega) (by omega) hbase ?_
  intro v' w' hown' hg hat
  obtain ⟨A', c', rfl, _, hc, _⟩ := own_slice hown'
  have hk : w'.ownsRow base 3 1 (.slice A2 n2 c2) n2 (l2.map vI) := by
    refine hown2.kept hg ?_
    cases h1 : (Value.slice A2 n2 c2).ownBlock with
    | none => exact .inl rfl
    | some g => exact .inr fun e => hd g e.symm h1
  refine h A' c' w' (by rw [List.map_append]; exact hown') hk ?_ ((Below.refl base w).grown hg hbase (fun k hk => (hown.lt k hk).1))
  intro g h1 h2
  rcases hat with h3 | h3
  · exact hd g (h3.symm.trans h1) h2
  · rw [h3] at h1
    injection h1 with h1
    subst h1
    exact absurd (hown2.lt _ h2).2 (by omega)
theorem ret_t3 {P : Program} {fn : Func} {R : Ending → World → Prop} {tmps : Array Value} {W : World} {p q r : Tmp} (h : fn.results = #[.tmp p, .tmp q, .tmp r]) (hR : R (.returned (.tuple #[tmps.getD p undef, tmps.getD q undef, tmps.getD r undef])) W) : bodyPost P fn R .ret ⟨tmps, []⟩ W :=
  bodyPost_ret (v := .tuple #[tmps.getD p undef, tmps.getD q undef, tmps.getD r undef]) (by simp [results, h]) rfl hR
def selU (f : Use → Bool) : List Use → List Int → List Int
  | u :: us, v :: vs => (if f u && decide (0 ≤ v) then [v] else []) ++ selU f us vs
  | _, _ => []
/-- What Slots answers. -/
def slR (op : Nat) (x y z : Int) : List Int := if ckI op x y z = 0 then selU (·.2.2.1) (shp op).1 [x, y, z] else []
def slW (op : Nat) (x y z : Int) : List Int := if ckI op x y z = 0 then selU (·.2.2.2) (shp op).1 [x, y, z] else []
def SlP (w : World) (op : Nat) (x y z : Int) (e : Ending) (w' : World) : Prop :=
  ∃ A1 c1 A2 c2, e = .returned (.tuple #[.slice A1 (slR op x y z).length c1, .slice A2 (slW op x y z).length c2, .int .i64 (ckI op x y z)]) ∧ w'.ownsRow w.heap.size 3 1 (.slice A1 (slR op x y z).length c1) (slR op x y z).length ((slR op x y z).map vI) ∧
    w'.ownsRow w.heap.size 3 1 (.slice A2 (slW op x y z).length c2) (slW op x y z).length ((slW op x y z).map vI) ∧ Below w.heap.size w w'

set_option maxRecDepth 100000 in
set_option maxHeartbeats 3200000 in
theorem slots_any (op : Nat) (hop : op < 256) (x y z : Int) (w : World) :
    Calls Try.prog 9 #[insV op x y z] w fun e w' => SlP w op x y z e w' := by
  have hB : Below w.heap.size w (w.alloc (.cells #[.int .u8 (op : Int), .int .i64 x, .int .i64 y, .int .i64 z] 23)) := (Below.alloc (Below.refl w.heap.size w) (by simp <;> omega) (.cells #[.int .u8 (op : Int), .int .i64 x, .int .i64 y, .int .i64 z] 23))
  have hx := Blk.new w 23 #[.int .u8 (op : Int), .int .i64 x, .int .i64 y, .int .i64 z]
  go_enter Try.func9, Try.ntmps9
  have z1 : (w.alloc (.cells #[.int .u8 (op : Int), .int .i64 x, .int .i64 y, .int .i64 z] 23)).cell? ⟨w.heap.size, 0, none⟩ = some (.int .u8 (op : Int)) := (hx.cell 0).trans rfl
  have z2 := hx.frozen 0
  have z3 : (w.alloc (.cells #[.int .u8 (op : Int), .int .i64 x, .int .i64 y, .int .i64 z] 23)).cell? ⟨w.heap.size, 1, none⟩ = some (.int .i64 x) := (hx.cell 1).trans rfl
  have z4 := hx.frozen 1
  have z5 : (w.alloc (.cells #[.int .u8 (op : Int), .int .i64 x, .int .i64 y, .int .i64 z] 23)).cell? ⟨w.heap.size, 2, none⟩ = some (.int .i64 y) := (hx.cell 2).trans rfl
  have z6 := hx.frozen 2
  have z7 : (w.alloc (.cells #[.int .u8 (op : Int), .int .i64 x, .int .i64 y, .int .i64 z] 23)).cell? ⟨w.heap.size, 3, none⟩ = some (.int .i64 z) := (hx.cell 3).trans rfl
  have z8 := hx.frozen 3
  have z9 := hx.lt
  go_wp2_with fail
  refine (check6_any op hop x y z _).mono ?_
  rintro e w1 ⟨rfl, bB⟩
  replace hx := Blk.via0 (g := w.heap.size) (t := 23) bB (by repeat (first | with_reducible exact hx | with_reducible (apply Blk.set_) | with_reducible (apply Blk.far; case hp => (simp <;> omega)) | with_reducible (apply Blk.alloc) | with_reducible (apply Blk.drew)))
  replace hx : Blk w1 w.heap.size 23 #[.int .u8 (op : Int), .int .i64 x, .int .i64 y, .int .i64 z] := hx
  replace hB := Below.via (w := w) (by have hs_ := hB.size; repeat (first | with_reducible exact hB | with_reducible (refine Below.setCell ?_ (by simp <;> omega) _) | with_reducible (refine Below.alloc ?_ (by first | exact hs_ | (simp <;> omega)) _) | with_reducible (refine Below.drew ?_))) bB
  clear z1 z2 z3 z4 z5 z6 z7 z8 z9
  clear bB
  have z10 : w1.cell? ⟨w.heap.size, 0, none⟩ = some (.int .u8 (op : Int)) := (hx.cell 0).trans rfl
  have z11 := hx.frozen 0
  have z12 : w1.cell? ⟨w.heap.size, 1, none⟩ = some (.int .i64 x) := (hx.cell 1).trans rfl
  have z13 := hx.frozen 1
  have z14 : w1.cell? ⟨w.heap.size, 2, none⟩ = some (.int .i64 y) := (hx.cell 2).trans rfl
  have z15 := hx.frozen 2
  have z16 : w1.cell? ⟨w.heap.size, 3, none⟩ = some (.int .i64 z) := (hx.cell 3).trans rfl
  have z17 := hx.frozen 3
  have z18 := hx.lt
  by_cases hck : ckI op x y z = 0
  rotate_left
  · have HV := Lib.hid (show slR op x y z = [] ∧ slW op x y z = [] from ⟨by rw [slR, if_neg hck], by rw [slW, if_neg hck]⟩)
    obtain ⟨E, hE⟩ : ∃ E, ckI op x y z = E := ⟨_, rfl⟩
    rw [hE] at hck ⊢
    have HE := Lib.hid hE
    have e1 : (E != 0) = true := by rw [bne_iff_ne]; exact hck
    clear hck hE
    go_wp2_with fail
    refine ret_t3 rfl ?_
    unfold SlP
    refine ⟨none, 0, none, 0, by rw [HV.out.1, HV.out.2, HE.out]; rfl, ?_, ?_, (by have hs_ := hB.size; repeat (first | with_reducible exact hB | with_reducible (refine Below.setCell ?_ (by simp <;> omega) _) | with_reducible (refine Below.alloc ?_ (by first | exact hs_ | (simp <;> omega)) _) | with_reducible (refine Below.drew ?_)))⟩
    · rw [HV.out.1]; exact World.ownsRow_nil _ _ _ _
    · rw [HV.out.2]; exact World.ownsRow_nil _ _ _ _
  obtain ⟨a1, a2, a3, a4, b1, b2, b3, b4, c1, c2, c3, c4, n, hsh, hn1, hn3⟩ := shp_form op
  have HR := Lib.hid (show slR op x y z = selU (·.2.2.1) [(a1, a2, a3, a4), (b1, b2, b3, b4), (c1, c2, c3, c4)] [x, y, z] from by rw [slR, if_pos hck, hsh])
  have HW := Lib.hid (show slW op x y z = selU (·.2.2.2) [(a1, a2, a3, a4), (b1, b2, b3, b4), (c1, c2, c3, c4)] [x, y, z] from by rw [slW, if_pos hck, hsh])
  have HS := fun W => shape_any op hop W
  have HCK := Lib.hid hck
  rw [hsh, usL3] at HS
  rw [hck]
  clear hck hsh
  go_wp2_with fail
  refine (HS _).mono ?_
  rintro e w2 ⟨rfl, bB⟩
  replace hx := Blk.via0 (g := w.heap.size) (t := 23) bB (by repeat (first | with_reducible exact hx | with_reducible (apply Blk.set_) | with_reducible (apply Blk.far; case hp => (simp <;> omega)) | with_reducible (apply Blk.alloc) | with_reducible (apply Blk.drew)))
  replace hx : Blk w2 w.heap.size 23 #[.int .u8 (op : Int), .int .i64 x, .int .i64 y, .int .i64 z] := hx
  replace hB := Below.via (w := w) (by have hs_ := hB.size; repeat (first | with_reducible exact hB | with_reducible (refine Below.setCell ?_ (by simp <;> omega) _) | with_reducible (refine Below.alloc ?_ (by first | exact hs_ | (simp <;> omega)) _) | with_reducible (refine Below.drew ?_))) bB
  clear z10 z11 z12 z13 z14 z15 z16 z17 z18
  clear bB
  clear HS
  have z19 : w2.cell? ⟨w.heap.size, 0, none⟩ = some (.int .u8 (op : Int)) := (hx.cell 0).trans rfl
  have z20 := hx.frozen 0
  have z21 : w2.cell? ⟨w.heap.size, 1, none⟩ = some (.int .i64 x) := (hx.cell 1).trans rfl
  have z22 := hx.frozen 1
  have z23 : w2.cell? ⟨w.heap.size, 2, none⟩ = some (.int .i64 y) := (hx.cell 2).trans rfl
  have z24 := hx.frozen 2
  have z25 : w2.cell? ⟨w.heap.size, 3, none⟩ = some (.int .i64 z) := (hx.cell 3).trans rfl
  have z26 := hx.frozen 3
  have z27 := hx.lt
  go_wp2_with fail
  refine (operands_any op x y z _).mono ?_
  rintro e w3 ⟨rfl, bB⟩
  have o_hx_hu : w.heap.size < w2.heap.size := (by omega)
  have ow_hu : w.heap.size ≤ w2.heap.size := (by have := hB.size; omega)
  replace hx := Blk.via0 (g := w.heap.size) (t := 23) bB (by repeat (first | with_reducible exact hx | with_reducible (apply Blk.set_) | with_reducible (apply Blk.far; case hp => (simp <;> omega)) | with_reducible (apply Blk.alloc) | with_reducible (apply Blk.drew)))
  replace hx : Blk w3 w.heap.size 23 #[.int .u8 (op : Int), .int .i64 x, .int .i64 y, .int .i64 z] := hx
  have hu := Blk.via0 (g := w2.heap.size) (t := 55) bB (by repeat (first | with_reducible exact Blk.newAt (by simp) _ _ | with_reducible (apply Blk.set_) | with_reducible (apply Blk.far; case hp => (simp <;> omega)) | with_reducible (apply Blk.alloc) | with_reducible (apply Blk.drew)))
  replace hu : Blk w3 w2.heap.size 55 #[.int .i64 a1, .int .i64 a2, .bool a3, .bool a4, .int .i64 b1, .int .i64 b2, .bool b3, .bool b4, .int .i64 c1, .int .i64 c2, .bool c3, .bool c4] := hu
  replace hB := Below.via (w := w) (by have hs_ := hB.size; repeat (first | with_reducible exact hB | with_reducible (refine Below.setCell ?_ (by simp <;> omega) _) | with_reducible (refine Below.alloc ?_ (by first | exact hs_ | (simp <;> omega)) _) | with_reducible (refine Below.drew ?_))) bB
  clear z19 z20 z21 z22 z23 z24 z25 z26 z27
  clear bB
  generalize w2.heap.size = pu at *
  have I0 := fun W => (idx_i3 x y z W).1
  have I1 := fun W => (idx_i3 x y z W).2.1
  have I2 := fun W => (idx_i3 x y z W).2.2
  have z28 : w3.cell? ⟨w.heap.size, 0, none⟩ = some (.int .u8 (op : Int)) := (hx.cell 0).trans rfl
  have z29 := hx.frozen 0
  have z30 : w3.cell? ⟨w.heap.size, 1, none⟩ = some (.int .i64 x) := (hx.cell 1).trans rfl
  have z31 := hx.frozen 1
  have z32 : w3.cell? ⟨w.heap.size, 2, none⟩ = some (.int .i64 y) := (hx.cell 2).trans rfl
  have z33 := hx.frozen 2
  have z34 : w3.cell? ⟨w.heap.size, 3, none⟩ = some (.int .i64 z) := (hx.cell 3).trans rfl
  have z35 := hx.frozen 3
  have z36 : w3.cell? ⟨pu, 0, none⟩ = some (.int .i64 a1) := (hu.cell 0).trans rfl
  have z37 := hu.frozen 0
  have z38 : w3.cell? ⟨pu, 1, none⟩ = some (.int .i64 a2) := (hu.cell 1).trans rfl
  have z39 := hu.frozen 1
  have z40 : w3.cell? ⟨pu, 2, none⟩ = some (.bool a3) := (hu.cell 2).trans rfl
  have z41 := hu.frozen 2
  have z42 : w3.cell? ⟨pu, 3, none⟩ = some (.bool a4) := (hu.cell 3).trans rfl
  have z43 := hu.frozen 3
  have z44 : w3.cell? ⟨pu, 4, none⟩ = some (.int .i64 b1) := (hu.cell 4).trans rfl
  have z45 := hu.frozen 4
  have z46 : w3.cell? ⟨pu, 5, none⟩ = some (.int .i64 b2) := (hu.cell 5).trans rfl
  have z47 := hu.frozen 5
  have z48 : w3.cell? ⟨pu, 6, none⟩ = some (.bool b3) := (hu.cell 6).trans rfl
  have z49 := hu.frozen 6
  have z50 : w3.cell? ⟨pu, 7, none⟩ = some (.bool b4) := (hu.cell 7).trans rfl
  have z51 := hu.frozen 7
  have z52 : w3.cell? ⟨pu, 8, none⟩ = some (.int .i64 c1) := (hu.cell 8).trans rfl
  have z53 := hu.frozen 8
  have z54 : w3.cell? ⟨pu, 9, none⟩ = some (.int .i64 c2) := (hu.cell 9).trans rfl
  have z55 := hu.frozen 9
  have z56 : w3.cell? ⟨pu, 10, none⟩ = some (.bool c3) := (hu.cell 10).trans rfl
  have z57 := hu.frozen 10
  have z58 : w3.cell? ⟨pu, 11, none⟩ = some (.bool c4) := (hu.cell 11).trans rfl
  have z59 := hu.frozen 11
  have z60 := hx.lt
  have z61 := hu.lt
  go_wp2_with fail
  clear z28 z29 z30 z31 z32 z33 z34 z35 z36 z37 z38 z39 z40 z41 z42 z43 z44 z45 z46 z47 z48 z49 z50 z51 z52 z53 z54 z55 z56 z57 z58 z59 z60 z61
  obtain ⟨Bl, hBl⟩ : ∃ Bl : Nat, Bl = w3.heap.size := ⟨_, rfl⟩
  have hBl1 : pu < Bl := by rw [hBl]; exact hu.lt
  have hBl2 : Bl ≤ w3.heap.size := Nat.le_of_eq hBl
  have hBl3 : w.heap.size ≤ Bl := by rw [hBl]; exact hB.size
  clear hBl
  go_loopw [2, 3, 23] (fun v2 v3 i wr => ∃ (j : Nat) (A1 : Option Addr) (k1 : Nat) (A2 : Option Addr) (k2 : Nat) (r1 r2 : List Int), j ≤ 3 ∧ i = .int .i64 (j : Int) ∧ v2 = .slice A1 r1.length k1 ∧ v3 = .slice A2 r2.length k2 ∧ r1.length ≤ j ∧ r2.length ≤ j ∧
      (j = 0 → slR op x y z = r1 ++ selU (·.2.2.1) [(a1, a2, a3, a4), (b1, b2, b3, b4), (c1, c2, c3, c4)] [x, y, z] ∧ slW op x y z = r2 ++ selU (·.2.2.2) [(a1, a2, a3, a4), (b1, b2, b3, b4), (c1, c2, c3, c4)] [x, y, z]) ∧ (j = 1 → slR op x y z = r1 ++ selU (·.2.2.1) [(b1, b2, b3, b4), (c1, c2, c3, c4)] [y, z] ∧ slW op x y z = r2 ++ selU (·.2.2.2) [(b1, b2, b3, b4), (c1, c2, c3, c4)] [y, z]) ∧ (j = 2 → slR op x y z = r1 ++ selU (·.2.2.1) [(c1, c2, c3, c4)] [z] ∧ slW op x y z = r2 ++ selU (·.2.2.2) [(c1, c2, c3, c4)] [z]) ∧ (j = 3 → slR op x y z = r1 ∧ slW op x y z = r2) ∧
      wr.ownsRow Bl 3 1 (.slice A1 r1.length k1) r1.length (r1.map vI) ∧ wr.ownsRow Bl 3 1 (.slice A2 r2.length k2) r2.length (r2.map vI) ∧ Dj (.slice A1 r1.length k1) (.slice A2 r2.length k2) ∧ Blk wr pu 55 #[.int .i64 a1, .int .i64 a2, .bool a3, .bool a4, .int .i64 b1, .int .i64 b2, .bool b3, .bool b4, .int .i64 c1, .int .i64 c2, .bool c3, .bool c4] ∧ Below w.heap.size w wr ∧ Bl ≤ wr.heap.size) (fun _ _ i _ => 3 - (intOf i).toNat)
  case atStart => exact ⟨0, none, 0, none, 0, [], [], by omega, rfl, rfl, rfl, by simp, by simp, fun _ => ⟨HR.out, HW.out⟩, by omega, by omega, by omega, World.ownsRow_nil _ _ _ _, World.ownsRow_nil _ _ _ _, Dj.nil _, hu, hB, hBl2⟩
  case round =>
    clear hu hB hx hBl2
    obtain ⟨j, A1, k1, A2, k2, r1, r2, hj, rfl, rfl, rfl, l1, l2, h0, h1, h2, h3, o1, o2, hd, hu, hB, hBl2⟩ := hrel
    have l1' : r1.length ≤ 3 := by omega
    have l2' : r2.length ≤ 3 := by omega
    rcases j with _ | _ | _ | _ | j
    · obtain ⟨e1, e2⟩ := h0 rfl
      have H1 := Lib.hid e1
      have H2 := Lib.hid e2
      clear h0 h1 h2 h3 e1 e2
      by_cases hv : 0 ≤ x
      · cases a3
        · cases a4
          · have z0 : wr.cell? ⟨pu, 0, none⟩ = some (.int .i64 a1) := (hu.cell 0).trans rfl
            have z1 : wr.cell? ⟨pu, 1, none⟩ = some (.int .i64 a2) := (hu.cell 1).trans rfl
            have z2 : wr.cell? ⟨pu, 2, none⟩ = some (.bool false) := (hu.cell 2).trans rfl
            have z3 : wr.cell? ⟨pu, 3, none⟩ = some (.bool false) := (hu.cell 3).trans rfl
            have HN1 := Lib.hid (show slR op x y z = r1 ++ selU (·.2.2.1) [(b1, b2, b3, b4), (c1, c2, c3, c4)] [y, z] from by rw [H1.out]; simp [selU, hv])
            have HN2 := Lib.hid (show slW op x y z = r2 ++ selU (·.2.2.2) [(b1, b2, b3, b4), (c1, c2, c3, c4)] [y, z] from by rw [H2.out]; simp [selU, hv])
            go_wp2_with fail
            go_roundw
            case rel => exact ⟨1, A1, k1, A2, k2, r1, r2, by omega, by go_num, rfl, rfl, (by omega), (by omega), by omega, fun _ => ⟨HN1.out, HN2.out⟩, by omega, by omega, o1, o2, hd, hu, hB, hBl2⟩
            case measure => simp [intOf]
          · have z0 : wr.cell? ⟨pu, 0, none⟩ = some (.int .i64 a1) := (hu.cell 0).trans rfl
            have z1 : wr.cell? ⟨pu, 1, none⟩ = some (.int .i64 a2) := (hu.cell 1).trans rfl
            have z2 : wr.cell? ⟨pu, 2, none⟩ = some (.bool false) := (hu.cell 2).trans rfl
            have z3 : wr.cell? ⟨pu, 3, none⟩ = some (.bool true) := (hu.cell 3).trans rfl
            have HN1 := Lib.hid (show slR op x y z = r1 ++ selU (·.2.2.1) [(b1, b2, b3, b4), (c1, c2, c3, c4)] [y, z] from by rw [H1.out]; simp [selU, hv])
            have HN2 := Lib.hid (show slW op x y z = (r2 ++ [x]) ++ selU (·.2.2.2) [(b1, b2, b3, b4), (c1, c2, c3, c4)] [y, z] from by rw [H2.out]; simp [selU, hv])
            have ma := own_alloc_ o2 (.cells #[.int .i64 x] 3)
            have mb := own_alloc_ o1 (.cells #[.int .i64 x] 3)
            have RX : RdI (wr.alloc (.cells #[.int .i64 x] 3)) (wr.alloc (.cells #[.int .i64 x] 3)).heap.size (some ⟨wr.heap.size, 0, none⟩) 1 [x] := reads_blk2 (Blk.new wr 3 #[.int .i64 x]) 1 1 rfl
            replace hB := hB.alloc hB.size (.cells #[.int .i64 x] 3)
            replace hu := hu.alloc (.cells #[.int .i64 x] 3)
            have hs5 : Bl ≤ (wr.alloc (.cells #[.int .i64 x] 3)).heap.size := (by simp <;> omega)
            go_wp2_with (at_builtin; refine wpList_appI rfl (.tmp 47) (.tmp 49) rfl Bl rfl ma mb (hd.symm) rfl RX (by omega) hs5 ?_; intro A5 c5 w5 p1 p2 pd b5; replace hu := hu.below b5 hBl1; replace hB := hB.trans (b5.mono hBl3); replace hBl2 := Nat.le_trans hs5 b5.size; replace o2 := p1; replace o1 := p2; have hd := pd.symm; clear ma mb RX hs5 p1 p2 pd b5)
            go_roundw
            case rel => exact ⟨1, A1, k1, A5, c5, r1, (r2 ++ [x]), by omega, by go_num, rfl, (by rw [List.length_append]; rfl), (by omega), (by rw [List.length_append, List.length_singleton]; omega), by omega, fun _ => ⟨HN1.out, HN2.out⟩, by omega, by omega, o1, (by rw [List.length_append]; exact o2), (by simp only [List.length_append, List.length_singleton]; exact hd), hu, hB, hBl2⟩
            case measure => simp [intOf]
        · cases a4
          · have z0 : wr.cell? ⟨pu, 0, none⟩ = some (.int .i64 a1) := (hu.cell 0).trans rfl
            have z1 : wr.cell? ⟨pu, 1, none⟩ = some (.int .i64 a2) := (hu.cell 1).trans rfl
            have z2 : wr.cell? ⟨pu, 2, none⟩ = some (.bool true) := (hu.cell 2).trans rfl
            have z3 : wr.cell? ⟨pu, 3, none⟩ = some (.bool false) := (hu.cell 3).trans rfl
            have HN1 := Lib.hid (show slR op x y z = (r1 ++ [x]) ++ selU (·.2.2.1) [(b1, b2, b3, b4), (c1, c2, c3, c4)] [y, z] from by rw [H1.out]; simp [selU, hv])
            have HN2 := Lib.hid (show slW op x y z = r2 ++ selU (·.2.2.2) [(b1, b2, b3, b4), (c1, c2, c3, c4)] [y, z] from by rw [H2.out]; simp [selU, hv])
            have ma := own_alloc_ o1 (.cells #[.int .i64 x] 3)
            have mb := own_alloc_ o2 (.cells #[.int .i64 x] 3)
            have RX : RdI (wr.alloc (.cells #[.int .i64 x] 3)) (wr.alloc (.cells #[.int .i64 x] 3)).heap.size (some ⟨wr.heap.size, 0, none⟩) 1 [x] := reads_blk2 (Blk.new wr 3 #[.int .i64 x]) 1 1 rfl
            replace hB := hB.alloc hB.size (.cells #[.int .i64 x] 3)
            replace hu := hu.alloc (.cells #[.int .i64 x] 3)
            have hs5 : Bl ≤ (wr.alloc (.cells #[.int .i64 x] 3)).heap.size := (by simp <;> omega)
            go_wp2_with (at_builtin; refine wpList_appI rfl (.tmp 35) (.tmp 37) rfl Bl rfl ma mb (hd) rfl RX (by omega) hs5 ?_; intro A5 c5 w5 p1 p2 pd b5; replace hu := hu.below b5 hBl1; replace hB := hB.trans (b5.mono hBl3); replace hBl2 := Nat.le_trans hs5 b5.size; replace o1 := p1; replace o2 := p2; have hd := pd; clear ma mb RX hs5 p1 p2 pd b5; have y0 : w5.cell? ⟨pu, 0, none⟩ = some (.int .i64 a1) := (hu.cell 0).trans rfl; have y1 : w5.cell? ⟨pu, 1, none⟩ = some (.int .i64 a2) := (hu.cell 1).trans rfl; have y2 : w5.cell? ⟨pu, 2, none⟩ = some (.bool true) := (hu.cell 2).trans rfl; have y3 : w5.cell? ⟨pu, 3, none⟩ = some (.bool false) := (hu.cell 3).trans rfl)
            go_roundw
            case rel => exact ⟨1, A5, c5, A2, k2, (r1 ++ [x]), r2, by omega, by go_num, (by rw [List.length_append]; rfl), rfl, (by rw [List.length_append, List.length_singleton]; omega), (by omega), by omega, fun _ => ⟨HN1.out, HN2.out⟩, by omega, by omega, (by rw [List.length_append]; exact o1), o2, (by simp only [List.length_append, List.length_singleton]; exact hd), hu, hB, hBl2⟩
            case measure => simp [intOf]
          · have z0 : wr.cell? ⟨pu, 0, none⟩ = some (.int .i64 a1) := (hu.cell 0).trans rfl
            have z1 : wr.cell? ⟨pu, 1, none⟩ = some (.int .i64 a2) := (hu.cell 1).trans rfl
            have z2 : wr.cell? ⟨pu, 2, none⟩ = some (.bool true) := (hu.cell 2).trans rfl
            have z3 : wr.cell? ⟨pu, 3, none⟩ = some (.bool true) := (hu.cell 3).trans rfl
            have HN1 := Lib.hid (show slR op x y z = (r1 ++ [x]) ++ selU (·.2.2.1) [(b1, b2, b3, b4), (c1, c2, c3, c4)] [y, z] from by rw [H1.out]; simp [selU, hv])
            have HN2 := Lib.hid (show slW op x y z = (r2 ++ [x]) ++ selU (·.2.2.2) [(b1, b2, b3, b4), (c1, c2, c3, c4)] [y, z] from by rw [H2.out]; simp [selU, hv])
            have ma := own_alloc_ o1 (.cells #[.int .i64 x] 3)
            have mb := own_alloc_ o2 (.cells #[.int .i64 x] 3)
            have RX : RdI (wr.alloc (.cells #[.int .i64 x] 3)) (wr.alloc (.cells #[.int .i64 x] 3)).heap.size (some ⟨wr.heap.size, 0, none⟩) 1 [x] := reads_blk2 (Blk.new wr 3 #[.int .i64 x]) 1 1 rfl
            replace hB := hB.alloc hB.size (.cells #[.int .i64 x] 3)
            replace hu := hu.alloc (.cells #[.int .i64 x] 3)
            have hs5 : Bl ≤ (wr.alloc (.cells #[.int .i64 x] 3)).heap.size := (by simp <;> omega)
            go_wp2_with (first | (at_builtin; refine wpList_appI rfl (.tmp 35) (.tmp 37) rfl Bl rfl ma mb (hd) rfl RX (by omega) hs5 ?_; intro A5 c5 w5 p1 p2 pd b5; replace hu := hu.below b5 hBl1; replace hB := hB.trans (b5.mono hBl3); replace hBl2 := Nat.le_trans hs5 b5.size; replace o1 := p1; replace o2 := p2; have hd := pd; clear ma mb RX hs5 p1 p2 pd b5; have y0 : w5.cell? ⟨pu, 0, none⟩ = some (.int .i64 a1) := (hu.cell 0).trans rfl; have y1 : w5.cell? ⟨pu, 1, none⟩ = some (.int .i64 a2) := (hu.cell 1).trans rfl; have y2 : w5.cell? ⟨pu, 2, none⟩ = some (.bool true) := (hu.cell 2).trans rfl; have y3 : w5.cell? ⟨pu, 3, none⟩ = some (.bool true) := (hu.cell 3).trans rfl; have ma := own_alloc_ o2 (.cells #[.int .i64 x] 3); have mb := own_alloc_ o1 (.cells #[.int .i64 x] 3); have RX : RdI (w5.alloc (.cells #[.int .i64 x] 3)) (w5.alloc (.cells #[.int .i64 x] 3)).heap.size (some ⟨w5.heap.size, 0, none⟩) 1 [x] := reads_blk2 (Blk.new w5 3 #[.int .i64 x]) 1 1 rfl; replace hB := hB.alloc hB.size (.cells #[.int .i64 x] 3); replace hu := hu.alloc (.cells #[.int .i64 x] 3); have hs5 : Bl ≤ (w5.alloc (.cells #[.int .i64 x] 3)).heap.size := (by simp <;> omega)) | (at_builtin; refine wpList_appI rfl (.tmp 47) (.tmp 49) rfl Bl rfl ma mb (hd.symm) rfl RX (by omega) hs5 ?_; intro A5 c5 w6 p1 p2 pd b5; replace hu := hu.below b5 hBl1; replace hB := hB.trans (b5.mono hBl3); replace hBl2 := Nat.le_trans hs5 b5.size; replace o2 := p1; replace o1 := p2; have hd := pd.symm; clear ma mb RX hs5 p1 p2 pd b5))
            go_roundw
            case rel => exact ⟨1, _, _, _, _, (r1 ++ [x]), (r2 ++ [x]), by omega, by go_num, (by rw [List.length_append]; rfl), (by rw [List.length_append]; rfl), (by rw [List.length_append, List.length_singleton]; omega), (by rw [List.length_append, List.length_singleton]; omega), by omega, fun _ => ⟨HN1.out, HN2.out⟩, by omega, by omega, (by rw [List.length_append]; exact o1), (by rw [List.length_append]; exact o2), (by simp only [List.length_append, List.length_singleton]; exact hd), hu, hB, hBl2⟩
            case measure => simp [intOf]
      · cases a3
        · cases a4
          · have z0 : wr.cell? ⟨pu, 0, none⟩ = some (.int .i64 a1) := (hu.cell 0).trans rfl
            have z1 : wr.cell? ⟨pu, 1, none⟩ = some (.int .i64 a2) := (hu.cell 1).trans rfl
            have z2 : wr.cell? ⟨pu, 2, none⟩ = some (.bool false) := (hu.cell 2).trans rfl
            have z3 : wr.cell? ⟨pu, 3, none⟩ = some (.bool false) := (hu.cell 3).trans rfl
            have HN1 := Lib.hid (show slR op x y z = r1 ++ selU (·.2.2.1) [(b1, b2, b3, b4), (c1, c2, c3, c4)] [y, z] from by rw [H1.out]; simp [selU, hv])
            have HN2 := Lib.hid (show slW op x y z = r2 ++ selU (·.2.2.2) [(b1, b2, b3, b4), (c1, c2, c3, c4)] [y, z] from by rw [H2.out]; simp [selU, hv])
            have dv : decide (0 ≤ x) = false := by simp; omega
            go_wp2_with fail
            go_roundw
            case rel => exact ⟨1, A1, k1, A2, k2, r1, r2, by omega, by go_num, rfl, rfl, (by omega), (by omega), by omega, fun _ => ⟨HN1.out, HN2.out⟩, by omega, by omega, o1, o2, hd, hu, hB, hBl2⟩
            case measure => simp [intOf]
          · have z0 : wr.cell? ⟨pu, 0, none⟩ = some (.int .i64 a1) := (hu.cell 0).trans rfl
            have z1 : wr.cell? ⟨pu, 1, none⟩ = some (.int .i64 a2) := (hu.cell 1).trans rfl
            have z2 : wr.cell? ⟨pu, 2, none⟩ = some (.bool false) := (hu.cell 2).trans rfl
            have z3 : wr.cell? ⟨pu, 3, none⟩ = some (.bool true) := (hu.cell 3).trans rfl
            have HN1 := Lib.hid (show slR op x y z = r1 ++ selU (·.2.2.1) [(b1, b2, b3, b4), (c1, c2, c3, c4)] [y, z] from by rw [H1.out]; simp [selU, hv])
            have HN2 := Lib.hid (show slW op x y z = r2 ++ selU (·.2.2.2) [(b1, b2, b3, b4), (c1, c2, c3, c4)] [y, z] from by rw [H2.out]; simp [selU, hv])
            have dv : decide (0 ≤ x) = false := by simp; omega
            go_wp2_with fail
            go_roundw
            case rel => exact ⟨1, A1, k1, A2, k2, r1, r2, by omega, by go_num, rfl, rfl, (by omega), (by omega), by omega, fun _ => ⟨HN1.out, HN2.out⟩, by omega, by omega, o1, o2, hd, hu, hB, hBl2⟩
            case measure => simp [intOf]
        · cases a4
          · have z0 : wr.cell? ⟨pu, 0, none⟩ = some (.int .i64 a1) := (hu.cell 0).trans rfl
            have z1 : wr.cell? ⟨pu, 1, none⟩ = some (.int .i64 a2) := (hu.cell 1).trans rfl
            have z2 : wr.cell? ⟨pu, 2, none⟩ = some (.bool true) := (hu.cell 2).trans rfl
            have z3 : wr.cell? ⟨pu, 3, none⟩ = some (.bool false) := (hu.cell 3).trans rfl
            have HN1 := Lib.hid (show slR op x y z = r1 ++ selU (·.2.2.1) [(b1, b2, b3, b4), (c1, c2, c3, c4)] [y, z] from by rw [H1.out]; simp [selU, hv])
            have HN2 := Lib.hid (show slW op x y z = r2 ++ selU (·.2.2.2) [(b1, b2, b3, b4), (c1, c2, c3, c4)] [y, z] from by rw [H2.out]; simp [selU, hv])
            have dv : decide (0 ≤ x) = false := by simp; omega
            go_wp2_with fail
            go_roundw
            case rel => exact ⟨1, A1, k1, A2, k2, r1, r2, by omega, by go_num, rfl, rfl, (by omega), (by omega), by omega, fun _ => ⟨HN1.out, HN2.out⟩, by omega, by omega, o1, o2, hd, hu, hB, hBl2⟩
            case measure => simp [intOf]
          · have z0 : wr.cell? ⟨pu, 0, none⟩ = some (.int .i64 a1) := (hu.cell 0).trans rfl
            have z1 : wr.cell? ⟨pu, 1, none⟩ = some (.int .i64 a2) := (hu.cell 1).trans rfl
            have z2 : wr.cell? ⟨pu, 2, none⟩ = some (.bool true) := (hu.cell 2).trans rfl
            have z3 : wr.cell? ⟨pu, 3, none⟩ = some (.bool true) := (hu.cell 3).trans rfl
            have HN1 := Lib.hid (show slR op x y z = r1 ++ selU (·.2.2.1) [(b1, b2, b3, b4), (c1, c2, c3, c4)] [y, z] from by rw [H1.out]; simp [selU, hv])
            have HN2 := Lib.hid (show slW op x y z = r2 ++ selU (·.2.2.2) [(b1, b2, b3, b4), (c1, c2, c3, c4)] [y, z] from by rw [H2.out]; simp [selU, hv])
            have dv : decide (0 ≤ x) = false := by simp; omega
            go_wp2_with fail
            go_roundw
            case rel => exact ⟨1, A1, k1, A2, k2, r1, r2, by omega, by go_num, rfl, rfl, (by omega), (by omega), by omega, fun _ => ⟨HN1.out, HN2.out⟩, by omega, by omega, o1, o2, hd, hu, hB, hBl2⟩
            case measure => simp [intOf]
    · obtain ⟨e1, e2⟩ := h1 rfl
      have H1 := Lib.hid e1
      have H2 := Lib.hid e2
      clear h0 h1 h2 h3 e1 e2
      by_cases hv : 0 ≤ y
      · cases b3
        · cases b4
          · have z4 : wr.cell? ⟨pu, 4, none⟩ = some (.int .i64 b1) := (hu.cell 4).trans rfl
            have z5 : wr.cell? ⟨pu, 5, none⟩ = some (.int .i64 b2) := (hu.cell 5).trans rfl
            have z6 : wr.cell? ⟨pu, 6, none⟩ = some (.bool false) := (hu.cell 6).trans rfl
            have z7 : wr.cell? ⟨pu, 7, none⟩ = some (.bool false) := (hu.cell 7).trans rfl
            have HN1 := Lib.hid (show slR op x y z = r1 ++ selU (·.2.2.1) [(c1, c2, c3, c4)] [z] from by rw [H1.out]; simp [selU, hv])
            have HN2 := Lib.hid (show slW op x y z = r2 ++ selU (·.2.2.2) [(c1, c2, c3, c4)] [z] from by rw [H2.out]; simp [selU, hv])
            go_wp2_with fail
            go_roundw
            case rel => exact ⟨2, A1, k1, A2, k2, r1, r2, by omega, by go_num, rfl, rfl, (by omega), (by omega), by omega, by omega, fun _ => ⟨HN1.out, HN2.out⟩, by omega, o1, o2, hd, hu, hB, hBl2⟩
            case measure => simp [intOf]
          · have z4 : wr.cell? ⟨pu, 4, none⟩ = some (.int .i64 b1) := (hu.cell 4).trans rfl
            have z5 : wr.cell? ⟨pu, 5, none⟩ = some (.int .i64 b2) := (hu.cell 5).trans rfl
            have z6 : wr.cell? ⟨pu, 6, none⟩ = some (.bool false) := (hu.cell 6).trans rfl
            have z7 : wr.cell? ⟨pu, 7, none⟩ = some (.bool true) := (hu.cell 7).trans rfl
            have HN1 := Lib.hid (show slR op x y z = r1 ++ selU (·.2.2.1) [(c1, c2, c3, c4)] [z] from by rw [H1.out]; simp [selU, hv])
            have HN2 := Lib.hid (show slW op x y z = (r2 ++ [y]) ++ selU (·.2.2.2) [(c1, c2, c3, c4)] [z] from by rw [H2.out]; simp [selU, hv])
            have ma := own_alloc_ o2 (.cells #[.int .i64 y] 3)
            have mb := own_alloc_ o1 (.cells #[.int .i64 y] 3)
            have RX : RdI (wr.alloc (.cells #[.int .i64 y] 3)) (wr.alloc (.cells #[.int .i64 y] 3)).heap.size (some ⟨wr.heap.size, 0, none⟩) 1 [y] := reads_blk2 (Blk.new wr 3 #[.int .i64 y]) 1 1 rfl
            replace hB := hB.alloc hB.size (.cells #[.int .i64 y] 3)
            replace hu := hu.alloc (.cells #[.int .i64 y] 3)
            have hs5 : Bl ≤ (wr.alloc (.cells #[.int .i64 y] 3)).heap.size := (by simp <;> omega)
            go_wp2_with (at_builtin; refine wpList_appI rfl (.tmp 47) (.tmp 49) rfl Bl rfl ma mb (hd.symm) rfl RX (by omega) hs5 ?_; intro A5 c5 w5 p1 p2 pd b5; replace hu := hu.below b5 hBl1; replace hB := hB.trans (b5.mono hBl3); replace hBl2 := Nat.le_trans hs5 b5.size; replace o2 := p1; replace o1 := p2; have hd := pd.symm; clear ma mb RX hs5 p1 p2 pd b5)
            go_roundw
            case rel => exact ⟨2, A1, k1, A5, c5, r1, (r2 ++ [y]), by omega, by go_num, rfl, (by rw [List.length_append]; rfl), (by omega), (by rw [List.length_append, List.length_singleton]; omega), by omega, by omega, fun _ => ⟨HN1.out, HN2.out⟩, by omega, o1, (by rw [List.length_append]; exact o2), (by simp only [List.length_append, List.length_singleton]; exact hd), hu, hB, hBl2⟩
            case measure => simp [intOf]
        · cases b4
          · have z4 : wr.cell? ⟨pu, 4, none⟩ = some (.int .i64 b1) := (hu.cell 4).trans rfl
            have z5 : wr.cell? ⟨pu, 5, none⟩ = some (.int .i64 b2) := (hu.cell 5).trans rfl
            have z6 : wr.cell? ⟨pu, 6, none⟩ = some (.bool true) := (hu.cell 6).trans rfl
            have z7 : wr.cell? ⟨pu, 7, none⟩ = some (.bool false) := (hu.cell 7).trans rfl
            have HN1 := Lib.hid (show slR op x y z = (r1 ++ [y]) ++ selU (·.2.2.1) [(c1, c2, c3, c4)] [z] from by rw [H1.out]; simp [selU, hv])
            have HN2 := Lib.hid (show slW op x y z = r2 ++ selU (·.2.2.2) [(c1, c2, c3, c4)] [z] from by rw [H2.out]; simp [selU, hv])
            have ma := own_alloc_ o1 (.cells #[.int .i64 y] 3)
            have mb := own_alloc_ o2 (.cells #[.int .i64 y] 3)
            have RX : RdI (wr.alloc (.cells #[.int .i64 y] 3)) (wr.alloc (.cells #[.int .i64 y] 3)).heap.size (some ⟨wr.heap.size, 0, none⟩) 1 [y] := reads_blk2 (Blk.new wr 3 #[.int .i64 y]) 1 1 rfl
            replace hB := hB.alloc hB.size (.cells #[.int .i64 y] 3)
            replace hu := hu.alloc (.cells #[.int .i64 y] 3)
            have hs5 : Bl ≤ (wr.alloc (.cells #[.int .i64 y] 3)).heap.size := (by simp <;> omega)
            go_wp2_with (at_builtin; refine wpList_appI rfl (.tmp 35) (.tmp 37) rfl Bl rfl ma mb (hd) rfl RX (by omega) hs5 ?_; intro A5 c5 w5 p1 p2 pd b5; replace hu := hu.below b5 hBl1; replace hB := hB.trans (b5.mono hBl3); replace hBl2 := Nat.le_trans hs5 b5.size; replace o1 := p1; replace o2 := p2; have hd := pd; clear ma mb RX hs5 p1 p2 pd b5; have y4 : w5.cell? ⟨pu, 4, none⟩ = some (.int .i64 b1) := (hu.cell 4).trans rfl; have y5 : w5.cell? ⟨pu, 5, none⟩ = some (.int .i64 b2) := (hu.cell 5).trans rfl; have y6 : w5.cell? ⟨pu, 6, none⟩ = some (.bool true) := (hu.cell 6).trans rfl; have y7 : w5.cell? ⟨pu, 7, none⟩ = some (.bool false) := (hu.cell 7).trans rfl)
            go_roundw
            case rel => exact ⟨2, A5, c5, A2, k2, (r1 ++ [y]), r2, by omega, by go_num, (by rw [List.length_append]; rfl), rfl, (by rw [List.length_append, List.length_singleton]; omega), (by omega), by omega, by omega, fun _ => ⟨HN1.out, HN2.out⟩, by omega, (by rw [List.length_append]; exact o1), o2, (by simp only [List.length_append, List.length_singleton]; exact hd), hu, hB, hBl2⟩
            case measure => simp [intOf]
          · have z4 : wr.cell? ⟨pu, 4, none⟩ = some (.int .i64 b1) := (hu.cell 4).trans rfl
            have z5 : wr.cell? ⟨pu, 5, none⟩ = some (.int .i64 b2) := (hu.cell 5).trans rfl
            have z6 : wr.cell? ⟨pu, 6, none⟩ = some (.bool true) := (hu.cell 6).trans rfl
            have z7 : wr.cell? ⟨pu, 7, none⟩ = some (.bool true) := (hu.cell 7).trans rfl
            have HN1 := Lib.hid (show slR op x y z = (r1 ++ [y]) ++ selU (·.2.2.1) [(c1, c2, c3, c4)] [z] from by rw [H1.out]; simp [selU, hv])
            have HN2 := Lib.hid (show slW op x y z = (r2 ++ [y]) ++ selU (·.2.2.2) [(c1, c2, c3, c4)] [z] from by rw [H2.out]; simp [selU, hv])
            have ma := own_alloc_ o1 (.cells #[.int .i64 y] 3)
            have mb := own_alloc_ o2 (.cells #[.int .i64 y] 3)
            have RX : RdI (wr.alloc (.cells #[.int .i64 y] 3)) (wr.alloc (.cells #[.int .i64 y] 3)).heap.size (some ⟨wr.heap.size, 0, none⟩) 1 [y] := reads_blk2 (Blk.new wr 3 #[.int .i64 y]) 1 1 rfl
            replace hB := hB.alloc hB.size (.cells #[.int .i64 y] 3)
            replace hu := hu.alloc (.cells #[.int .i64 y] 3)
            have hs5 : Bl ≤ (wr.alloc (.cells #[.int .i64 y] 3)).heap.size := (by simp <;> omega)
            go_wp2_with (first | (at_builtin; refine wpList_appI rfl (.tmp 35) (.tmp 37) rfl Bl rfl ma mb (hd) rfl RX (by omega) hs5 ?_; intro A5 c5 w5 p1 p2 pd b5; replace hu := hu.below b5 hBl1; replace hB := hB.trans (b5.mono hBl3); replace hBl2 := Nat.le_trans hs5 b5.size; replace o1 := p1; replace o2 := p2; have hd := pd; clear ma mb RX hs5 p1 p2 pd b5; have y4 : w5.cell? ⟨pu, 4, none⟩ = some (.int .i64 b1) := (hu.cell 4).trans rfl; have y5 : w5.cell? ⟨pu, 5, none⟩ = some (.int .i64 b2) := (hu.cell 5).trans rfl; have y6 : w5.cell? ⟨pu, 6, none⟩ = some (.bool true) := (hu.cell 6).trans rfl; have y7 : w5.cell? ⟨pu, 7, none⟩ = some (.bool true) := (hu.cell 7).trans rfl; have ma := own_alloc_ o2 (.cells #[.int .i64 y] 3); have mb := own_alloc_ o1 (.cells #[.int .i64 y] 3); have RX : RdI (w5.alloc (.cells #[.int .i64 y] 3)) (w5.alloc (.cells #[.int .i64 y] 3)).heap.size (some ⟨w5.heap.size, 0, none⟩) 1 [y] := reads_blk2 (Blk.new w5 3 #[.int .i64 y]) 1 1 rfl; replace hB := hB.alloc hB.size (.cells #[.int .i64 y] 3); replace hu := hu.alloc (.cells #[.int .i64 y] 3); have hs5 : Bl ≤ (w5.alloc (.cells #[.int .i64 y] 3)).heap.size := (by simp <;> omega)) | (at_builtin; refine wpList_appI rfl (.tmp 47) (.tmp 49) rfl Bl rfl ma mb (hd.symm) rfl RX (by omega) hs5 ?_; intro A5 c5 w6 p1 p2 pd b5; replace hu := hu.below b5 hBl1; replace hB := hB.trans (b5.mono hBl3); replace hBl2 := Nat.le_trans hs5 b5.size; replace o2 := p1; replace o1 := p2; have hd := pd.symm; clear ma mb RX hs5 p1 p2 pd b5))
            go_roundw
            case rel => exact ⟨2, _, _, _, _, (r1 ++ [y]), (r2 ++ [y]), by omega, by go_num, (by rw [List.length_append]; rfl), (by rw [List.length_append]; rfl), (by rw [List.length_append, List.length_singleton]; omega), (by rw [List.length_append, List.length_singleton]; omega), by omega, by omega, fun _ => ⟨HN1.out, HN2.out⟩, by omega, (by rw [List.length_append]; exact o1), (by rw [List.length_append]; exact o2), (by simp only [List.length_append, List.length_singleton]; exact hd), hu, hB, hBl2⟩
            case measure => simp [intOf]
      · cases b3
        · cases b4
          · have z4 : wr.cell? ⟨pu, 4, none⟩ = some (.int .i64 b1) := (hu.cell 4).trans rfl
            have z5 : wr.cell? ⟨pu, 5, none⟩ = some (.int .i64 b2) := (hu.cell 5).trans rfl
            have z6 : wr.cell? ⟨pu, 6, none⟩ = some (.bool false) := (hu.cell 6).trans rfl
            have z7 : wr.cell? ⟨pu, 7, none⟩ = some (.bool false) := (hu.cell 7).trans rfl
            have HN1 := Lib.hid (show slR op x y z = r1 ++ selU (·.2.2.1) [(c1, c2, c3, c4)] [z] from by rw [H1.out]; simp [selU, hv])
            have HN2 := Lib.hid (show slW op x y z = r2 ++ selU (·.2.2.2) [(c1, c2, c3, c4)] [z] from by rw [H2.out]; simp [selU, hv])
            have dv : decide (0 ≤ y) = false := by simp; omega
            go_wp2_with fail
            go_roundw
            case rel => exact ⟨2, A1, k1, A2, k2, r1, r2, by omega, by go_num, rfl, rfl, (by omega), (by omega), by omega, by omega, fun _ => ⟨HN1.out, HN2.out⟩, by omega, o1, o2, hd, hu, hB, hBl2⟩
            case measure => simp [intOf]
          · have z4 : wr.cell? ⟨pu, 4, none⟩ = some (.int .i64 b1) := (hu.cell 4).trans rfl
            have z5 : wr.cell? ⟨pu, 5, none⟩ = some (.int .i64 b2) := (hu.cell 5).trans rfl
            have z6 : wr.cell? ⟨pu, 6, none⟩ = some (.bool false) := (hu.cell 6).trans rfl
            have z7 : wr.cell? ⟨pu, 7, none⟩ = some (.bool true) := (hu.cell 7).trans rfl
            have HN1 := Lib.hid (show slR op x y z = r1 ++ selU (·.2.2.1) [(c1, c2, c3, c4)] [z] from by rw [H1.out]; simp [selU, hv])
            have HN2 := Lib.hid (show slW op x y z = r2 ++ selU (·.2.2.2) [(c1, c2, c3, c4)] [z] from by rw [H2.out]; simp [selU, hv])
            have dv : decide (0 ≤ y) = false := by simp; omega
            go_wp2_with fail
            go_roundw
            case rel => exact ⟨2, A1, k1, A2, k2, r1, r2, by omega, by go_num, rfl, rfl, (by omega), (by omega), by omega, by omega, fun _ => ⟨HN1.out, HN2.out⟩, by omega, o1, o2, hd, hu, hB, hBl2⟩
            case measure => simp [intOf]
        · cases b4
          · have z4 : wr.cell? ⟨pu, 4, none⟩ = some (.int .i64 b1) := (hu.cell 4).trans rfl
            have z5 : wr.cell? ⟨pu, 5, none⟩ = some (.int .i64 b2) := (hu.cell 5).trans rfl
            have z6 : wr.cell? ⟨pu, 6, none⟩ = some (.bool true) := (hu.cell 6).trans rfl
            have z7 : wr.cell? ⟨pu, 7, none⟩ = some (.bool false) := (hu.cell 7).trans rfl
            have HN1 := Lib.hid (show slR op x y z = r1 ++ selU (·.2.2.1) [(c1, c2, c3, c4)] [z] from by rw [H1.out]; simp [selU, hv])
            have HN2 := Lib.hid (show slW op x y z = r2 ++ selU (·.2.2.2) [(c1, c2, c3, c4)] [z] from by rw [H2.out]; simp [selU, hv])
            have dv : decide (0 ≤ y) = false := by simp; omega
            go_wp2_with fail
            go_roundw
            case rel => exact ⟨2, A1, k1, A2, k2, r1, r2, by omega, by go_num, rfl, rfl, (by omega), (by omega), by omega, by omega, fun _ => ⟨HN1.out, HN2.out⟩, by omega, o1, o2, hd, hu, hB, hBl2⟩
            case measure => simp [intOf]
          · have z4 : wr.cell? ⟨pu, 4, none⟩ = some (.int .i64 b1) := (hu.cell 4).trans rfl
            have z5 : wr.cell? ⟨pu, 5, none⟩ = some (.int .i64 b2) := (hu.cell 5).trans rfl
            have z6 : wr.cell? ⟨pu, 6, none⟩ = some (.bool true) := (hu.cell 6).trans rfl
            have z7 : wr.cell? ⟨pu, 7, none⟩ = some (.bool true) := (hu.cell 7).trans rfl
            have HN1 := Lib.hid (show slR op x y z = r1 ++ selU (·.2.2.1) [(c1, c2, c3, c4)] [z] from by rw [H1.out]; simp [selU, hv])
            have HN2 := Lib.hid (show slW op x y z = r2 ++ selU (·.2.2.2) [(c1, c2, c3, c4)] [z] from by rw [H2.out]; simp [selU, hv])
            have dv : decide (0 ≤ y) = false := by simp; omega
            go_wp2_with fail
            go_roundw
            case rel => exact ⟨2, A1, k1, A2, k2, r1, r2, by omega, by go_num, rfl, rfl, (by omega), (by omega), by omega, by omega, fun _ => ⟨HN1.out, HN2.out⟩, by omega, o1, o2, hd, hu, hB, hBl2⟩
            case measure => simp [intOf]
    · obtain ⟨e1, e2⟩ := h2 rfl
      have H1 := Lib.hid e1
      have H2 := Lib.hid e2
      clear h0 h1 h2 h3 e1 e2
      by_cases hv : 0 ≤ z
      · cases c3
        · cases c4
          · have z8 : wr.cell? ⟨pu, 8, none⟩ = some (.int .i64 c1) := (hu.cell 8).trans rfl
            have z9 : wr.cell? ⟨pu, 9, none⟩ = some (.int .i64 c2) := (hu.cell 9).trans rfl
            have z10 : wr.cell? ⟨pu, 10, none⟩ = some (.bool false) := (hu.cell 10).trans rfl
            have z11 : wr.cell? ⟨pu, 11, none⟩ = some (.bool false) := (hu.cell 11).trans rfl
            have HN1 := Lib.hid (show slR op x y z = r1 ++ [] from by rw [H1.out]; simp [selU, hv])
            have HN2 := Lib.hid (show slW op x y z = r2 ++ [] from by rw [H2.out]; simp [selU, hv])
            go_wp2_with fail
            go_roundw
            case rel => exact ⟨3, A1, k1, A2, k2, r1, r2, by omega, by go_num, rfl, rfl, (by omega), (by omega), by omega, by omega, by omega, fun _ => ⟨HN1.out.trans (List.append_nil _), HN2.out.trans (List.append_nil _)⟩, o1, o2, hd, hu, hB, hBl2⟩
            case measure => simp [intOf]
          · have z8 : wr.cell? ⟨pu, 8, none⟩ = some (.int .i64 c1) := (hu.cell 8).trans rfl
            have z9 : wr.cell? ⟨pu, 9, none⟩ = some (.int .i64 c2) := (hu.cell 9).trans rfl
            have z10 : wr.cell? ⟨pu, 10, none⟩ = some (.bool false) := (hu.cell 10).trans rfl
            have z11 : wr.cell? ⟨pu, 11, none⟩ = some (.bool true) := (hu.cell 11).trans rfl
            have HN1 := Lib.hid (show slR op x y z = r1 ++ [] from by rw [H1.out]; simp [selU, hv])
            have HN2 := Lib.hid (show slW op x y z = (r2 ++ [z]) ++ [] from by rw [H2.out]; simp [selU, hv])
            have ma := own_alloc_ o2 (.cells #[.int .i64 z] 3)
            have mb := own_alloc_ o1 (.cells #[.int .i64 z] 3)
            have RX : RdI (wr.alloc (.cells #[.int .i64 z] 3)) (wr.alloc (.cells #[.int .i64 z] 3)).heap.size (some ⟨wr.heap.size, 0, none⟩) 1 [z] := reads_blk2 (Blk.new wr 3 #[.int .i64 z]) 1 1 rfl
            replace hB := hB.alloc hB.size (.cells #[.int .i64 z] 3)
            replace hu := hu.alloc (.cells #[.int .i64 z] 3)
            have hs5 : Bl ≤ (wr.alloc (.cells #[.int .i64 z] 3)).heap.size := (by simp <;> omega)
            go_wp2_with (at_builtin; refine wpList_appI rfl (.tmp 47) (.tmp 49) rfl Bl rfl ma mb (hd.symm) rfl RX (by omega) hs5 ?_; intro A5 c5 w5 p1 p2 pd b5; replace hu := hu.below b5 hBl1; replace hB := hB.trans (b5.mono hBl3); replace hBl2 := Nat.le_trans hs5 b5.size; replace o2 := p1; replace o1 := p2; have hd := pd.symm; clear ma mb RX hs5 p1 p2 pd b5)
            go_roundw
            case rel => exact ⟨3, A1, k1, A5, c5, r1, (r2 ++ [z]), by omega, by go_num, rfl, (by rw [List.length_append]; rfl), (by omega), (by rw [List.length_append, List.length_singleton]; omega), by omega, by omega, by omega, fun _ => ⟨HN1.out.trans (List.append_nil _), HN2.out.trans (List.append_nil _)⟩, o1, (by rw [List.length_append]; exact o2), (by simp only [List.length_append, List.length_singleton]; exact hd), hu, hB, hBl2⟩
            case measure => simp [intOf]
        · cases c4
          · have z8 : wr.cell? ⟨pu, 8, none⟩ = some (.int .i64 c1) := (hu.cell 8).trans rfl
            have z9 : wr.cell? ⟨pu, 9, none⟩ = some (.int .i64 c2) := (hu.cell 9).trans rfl
            have z10 : wr.cell? ⟨pu, 10, none⟩ = some (.bool true) := (hu.cell 10).trans rfl
            have z11 : wr.cell? ⟨pu, 11, none⟩ = some (.bool false) := (hu.cell 11).trans rfl
            have HN1 := Lib.hid (show slR op x y z = (r1 ++ [z]) ++ [] from by rw [H1.out]; simp [selU, hv])
            have HN2 := Lib.hid (show slW op x y z = r2 ++ [] from by rw [H2.out]; simp [selU, hv])
            have ma := own_alloc_ o1 (.cells #[.int .i64 z] 3)
            have mb := own_alloc_ o2 (.cells #[.int .i64 z] 3)
            have RX : RdI (wr.alloc (.cells #[.int .i64 z] 3)) (wr.alloc (.cells #[.int .i64 z] 3)).heap.size (some ⟨wr.heap.size, 0, none⟩) 1 [z] := reads_blk2 (Blk.new wr 3 #[.int .i64 z]) 1 1 rfl
            replace hB := hB.alloc hB.size (.cells #[.int .i64 z] 3)
            replace hu := hu.alloc (.cells #[.int .i64 z] 3)
            have hs5 : Bl ≤ (wr.alloc (.cells #[.int .i64 z] 3)).heap.size := (by simp <;> omega)
            go_wp2_with (at_builtin; refine wpList_appI rfl (.tmp 35) (.tmp 37) rfl Bl rfl ma mb (hd) rfl RX (by omega) hs5 ?_; intro A5 c5 w5 p1 p2 pd b5; replace hu := hu.below b5 hBl1; replace hB := hB.trans (b5.mono hBl3); replace hBl2 := Nat.le_trans hs5 b5.size; replace o1 := p1; replace o2 := p2; have hd := pd; clear ma mb RX hs5 p1 p2 pd b5; have y8 : w5.cell? ⟨pu, 8, none⟩ = some (.int .i64 c1) := (hu.cell 8).trans rfl; have y9 : w5.cell? ⟨pu, 9, none⟩ = some (.int .i64 c2) := (hu.cell 9).trans rfl; have y10 : w5.cell? ⟨pu, 10, none⟩ = some (.bool true) := (hu.cell 10).trans rfl; have y11 : w5.cell? ⟨pu, 11, none⟩ = some (.bool false) := (hu.cell 11).trans rfl)
            go_roundw
            case rel => exact ⟨3, A5, c5, A2, k2, (r1 ++ [z]), r2, by omega, by go_num, (by rw [List.length_append]; rfl), rfl, (by rw [List.length_append, List.length_singleton]; omega), (by omega), by omega, by omega, by omega, fun _ => ⟨HN1.out.trans (List.append_nil _), HN2.out.trans (List.append_nil _)⟩, (by rw [List.length_append]; exact o1), o2, (by simp only [List.length_append, List.length_singleton]; exact hd), hu, hB, hBl2⟩
            case measure => simp [intOf]
          · have z8 : wr.cell? ⟨pu, 8, none⟩ = some (.int .i64 c1) := (hu.cell 8).trans rfl
            have z9 : wr.cell? ⟨pu, 9, none⟩ = some (.int .i64 c2) := (hu.cell 9).trans rfl
            have z10 : wr.cell? ⟨pu, 10, none⟩ = some (.bool true) := (hu.cell 10).trans rfl
            have z11 : wr.cell? ⟨pu, 11, none⟩ = some (.bool true) := (hu.cell 11).trans rfl
            have HN1 := Lib.hid (show slR op x y z = (r1 ++ [z]) ++ [] from by rw [H1.out]; simp [selU, hv])
            have HN2 := Lib.hid (show slW op x y z = (r2 ++ [z]) ++ [] from by rw [H2.out]; simp [selU, hv])
            have ma := own_alloc_ o1 (.cells #[.int .i64 z] 3)
            have mb := own_alloc_ o2 (.cells #[.int .i64 z] 3)
            have RX : RdI (wr.alloc (.cells #[.int .i64 z] 3)) (wr.alloc (.cells #[.int .i64 z] 3)).heap.size (some ⟨wr.heap.size, 0, none⟩) 1 [z] := reads_blk2 (Blk.new wr 3 #[.int .i64 z]) 1 1 rfl
            replace hB := hB.alloc hB.size (.cells #[.int .i64 z] 3)
            replace hu := hu.alloc (.cells #[.int .i64 z] 3)
            have hs5 : Bl ≤ (wr.alloc (.cells #[.int .i64 z] 3)).heap.size := (by simp <;> omega)
            go_wp2_with (first | (at_builtin; refine wpList_appI rfl (.tmp 35) (.tmp 37) rfl Bl rfl ma mb (hd) rfl RX (by omega) hs5 ?_; intro A5 c5 w5 p1 p2 pd b5; replace hu := hu.below b5 hBl1; replace hB := hB.trans (b5.mono hBl3); replace hBl2 := Nat.le_trans hs5 b5.size; replace o1 := p1; replace o2 := p2; have hd := pd; clear ma mb RX hs5 p1 p2 pd b5; have y8 : w5.cell? ⟨pu, 8, none⟩ = some (.int .i64 c1) := (hu.cell 8).trans rfl; have y9 : w5.cell? ⟨pu, 9, none⟩ = some (.int .i64 c2) := (hu.cell 9).trans rfl; have y10 : w5.cell? ⟨pu, 10, none⟩ = some (.bool true) := (hu.cell 10).trans rfl; have y11 : w5.cell? ⟨pu, 11, none⟩ = some (.bool true) := (hu.cell 11).trans rfl; have ma := own_alloc_ o2 (.cells #[.int .i64 z] 3); have mb := own_alloc_ o1 (.cells #[.int .i64 z] 3); have RX : RdI (w5.alloc (.cells #[.int .i64 z] 3)) (w5.alloc (.cells #[.int .i64 z] 3)).heap.size (some ⟨w5.heap.size, 0, none⟩) 1 [z] := reads_blk2 (Blk.new w5 3 #[.int .i64 z]) 1 1 rfl; replace hB := hB.alloc hB.size (.cells #[.int .i64 z] 3); replace hu := hu.alloc (.cells #[.int .i64 z] 3); have hs5 : Bl ≤ (w5.alloc (.cells #[.int .i64 z] 3)).heap.size := (by simp <;> omega)) | (at_builtin; refine wpList_appI rfl (.tmp 47) (.tmp 49) rfl Bl rfl ma mb (hd.symm) rfl RX (by omega) hs5 ?_; intro A5 c5 w6 p1 p2 pd b5; replace hu := hu.below b5 hBl1; replace hB := hB.trans (b5.mono hBl3); replace hBl2 := Nat.le_trans hs5 b5.size; replace o2 := p1; replace o1 := p2; have hd := pd.symm; clear ma mb RX hs5 p1 p2 pd b5))
            go_roundw
            case rel => exact ⟨3, _, _, _, _, (r1 ++ [z]), (r2 ++ [z]), by omega, by go_num, (by rw [List.length_append]; rfl), (by rw [List.length_append]; rfl), (by rw [List.length_append, List.length_singleton]; omega), (by rw [List.length_append, List.length_singleton]; omega), by omega, by omega, by omega, fun _ => ⟨HN1.out.trans (List.append_nil _), HN2.out.trans (List.append_nil _)⟩, (by rw [List.length_append]; exact o1), (by rw [List.length_append]; exact o2), (by simp only [List.length_append, List.length_singleton]; exact hd), hu, hB, hBl2⟩
            case measure => simp [intOf]
      · cases c3
        · cases c4
          · have z8 : wr.cell? ⟨pu, 8, none⟩ = some (.int .i64 c1) := (hu.cell 8).trans rfl
            have z9 : wr.cell? ⟨pu, 9, none⟩ = some (.int .i64 c2) := (hu.cell 9).trans rfl
            have z10 : wr.cell? ⟨pu, 10, none⟩ = some (.bool false) := (hu.cell 10).trans rfl
            have z11 : wr.cell? ⟨pu, 11, none⟩ = some (.bool false) := (hu.cell 11).trans rfl
            have HN1 := Lib.hid (show slR op x y z = r1 ++ [] from by rw [H1.out]; simp [selU, hv])
            have HN2 := Lib.hid (show slW op x y z = r2 ++ [] from by rw [H2.out]; simp [selU, hv])
            have dv : decide (0 ≤ z) = false := by simp; omega
            go_wp2_with fail
            go_roundw
            case rel => exact ⟨3, A1, k1, A2, k2, r1, r2, by omega, by go_num, rfl, rfl, (by omega), (by omega), by omega, by omega, by omega, fun _ => ⟨HN1.out.trans (List.append_nil _), HN2.out.trans (List.append_nil _)⟩, o1, o2, hd, hu, hB, hBl2⟩
            case measure => simp [intOf]
          · have z8 : wr.cell? ⟨pu, 8, none⟩ = some (.int .i64 c1) := (hu.cell 8).trans rfl
            have z9 : wr.cell? ⟨pu, 9, none⟩ = some (.int .i64 c2) := (hu.cell 9).trans rfl
            have z10 : wr.cell? ⟨pu, 10, none⟩ = some (.bool false) := (hu.cell 10).trans rfl
            have z11 : wr.cell? ⟨pu, 11, none⟩ = some (.bool true) := (hu.cell 11).trans rfl
            have HN1 := Lib.hid (show slR op x y z = r1 ++ [] from by rw [H1.out]; simp [selU, hv])
            have HN2 := Lib.hid (show slW op x y z = r2 ++ [] from by rw [H2.out]; simp [selU, hv])
            have dv : decide (0 ≤ z) = false := by simp; omega
            go_wp2_with fail
            go_roundw
            case rel => exact ⟨3, A1, k1, A2, k2, r1, r2, by omega, by go_num, rfl, rfl, (by omega), (by omega), by omega, by omega, by omega, fun _ => ⟨HN1.out.trans (List.append_nil _), HN2.out.trans (List.append_nil _)⟩, o1, o2, hd, hu, hB, hBl2⟩
            case measure => simp [intOf]
        · cases c4
          · have z8 : wr.cell? ⟨pu, 8, none⟩ = some (.int .i64 c1) := (hu.cell 8).trans rfl
            have z9 : wr.cell? ⟨pu, 9, none⟩ = some (.int .i64 c2) := (hu.cell 9).trans rfl
            have z10 : wr.cell? ⟨pu, 10, none⟩ = some (.bool true) := (hu.cell 10).trans rfl
            have z11 : wr.cell? ⟨pu, 11, none⟩ = some (.bool false) := (hu.cell 11).trans rfl
            have HN1 := Lib.hid (show slR op x y z = r1 ++ [] from by rw [H1.out]; simp [selU, hv])
            have HN2 := Lib.hid (show slW op x y z = r2 ++ [] from by rw [H2.out]; simp [selU, hv])
            have dv : decide (0 ≤ z) = false := by simp; omega
            go_wp2_with fail
            go_roundw
            case rel => exact ⟨3, A1, k1, A2, k2, r1, r2, by omega, by go_num, rfl, rfl, (by omega), (by omega), by omega, by omega, by omega, fun _ => ⟨HN1.out.trans (List.append_nil _), HN2.out.trans (List.append_nil _)⟩, o1, o2, hd, hu, hB, hBl2⟩
            case measure => simp [intOf]
          · have z8 : wr.cell? ⟨pu, 8, none⟩ = some (.int .i64 c1) := (hu.cell 8).trans rfl
            have z9 : wr.cell? ⟨pu, 9, none⟩ = some (.int .i64 c2) := (hu.cell 9).trans rfl
            have z10 : wr.cell? ⟨pu, 10, none⟩ = some (.bool true) := (hu.cell 10).trans rfl
            have z11 : wr.cell? ⟨pu, 11, none⟩ = some (.bool true) := (hu.cell 11).trans rfl
            have HN1 := Lib.hid (show slR op x y z = r1 ++ [] from by rw [H1.out]; simp [selU, hv])
            have HN2 := Lib.hid (show slW op x y z = r2 ++ [] from by rw [H2.out]; simp [selU, hv])
            have dv : decide (0 ≤ z) = false := by simp; omega
            go_wp2_with fail
            go_roundw
            case rel => exact ⟨3, A1, k1, A2, k2, r1, r2, by omega, by go_num, rfl, rfl, (by omega), (by omega), by omega, by omega, by omega, fun _ => ⟨HN1.out.trans (List.append_nil _), HN2.out.trans (List.append_nil _)⟩, o1, o2, hd, hu, hB, hBl2⟩
            case measure => simp [intOf]
    · obtain ⟨e1, e2⟩ := h3 rfl
      have H1 := Lib.hid e1
      have H2 := Lib.hid e2
      clear h0 h1 h2 h3 e1 e2
      go_wp2_with fail
      refine ret_t3 rfl ?_
      unfold SlP
      exact ⟨A1, k1, A2, k2, by rw [H1.out, H2.out, HCK.out]; rfl, by rw [H1.out]; exact own_low o1 hBl3, by rw [H2.out]; exact own_low o2 hBl3, hB⟩
    · omega

end Go.Proofs.Ytkhdeoihjnpnaaa
