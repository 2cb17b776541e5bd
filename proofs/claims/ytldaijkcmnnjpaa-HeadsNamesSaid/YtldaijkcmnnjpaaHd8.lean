/- Contracts and laws of a chapter that its statement of names leans on. Each states its conditions. -/
import Derived.Test.YtldaijkcmnnjpaaHd7
import Derived.Test.YtldaijkcmnnjpaaRet3
namespace Go.Proofs.Ytldaijkcmnnjpaa
open Go.RowKit Wire
set_option linter.unusedVariables false
/-- The bytes of a goroutine with an index. -/
def hdL (g : Nat) (x : Rtn) : List UInt8 :=
  UInt8.ofNat x.1 :: (vry x.2.1 ++ (vry ((x.2.2.1 - 16777216 * (g + 1)) / 8) ++ (vry (x.2.2.2.1 / 8) ++ (vry (x.2.2.2.2.1 / 8) ++ vry (dbl x.2.2.2.2.2)))))
def hBy (i : Nat) : List Rtn → List UInt8
  | [] => []
  | x :: r => hdL i x ++ hBy (i + 1) r
def hsL (L : List Rtn) : List UInt8 := vry L.length ++ hBy 0 L
def whsL (L : List Rtn) : List UInt8 := if hsB L then hsL L else []
def whsE (L : List Rtn) : Int := if hsB L then 0 else 8
theorem hBy_app (l m : List Rtn) : ∀ i, hBy i (l ++ m) = hBy i l ++ hBy (i + l.length) m := by
  induction l with
  | nil => intro i; simp [hBy]
  | cons x l ih => intro i; simp only [List.cons_append, hBy, ih (i + 1), List.length_cons, List.append_assoc]; congr 2; congr 1; omega
theorem hBy_take {L : List Rtn} {j : Nat} {x : Rtn} (h : L[j]? = some x) : hBy 0 (L.take (j + 1)) = hBy 0 (L.take j) ++ hdL j x := by
  have hl := (List.getElem?_eq_some_iff.1 h).1
  rw [List.take_add_one, h, hBy_app]
  simp [hBy, Nat.min_eq_left (Nat.le_of_lt hl)]
theorem hdL_len (g : Nat) (x : Rtn) : 6 ≤ (hdL g x).length ∧ (hdL g x).length ≤ 51 := by
  have h1 := vry_len x.2.1
  have h2 := vry_len ((x.2.2.1 - 16777216 * (g + 1)) / 8)
  have h3 := vry_len (x.2.2.2.1 / 8)
  have h4 := vry_len (x.2.2.2.2.1 / 8)
  have h5 := vry_len (dbl x.2.2.2.2.2)
  simp only [hdL, List.length_cons, List.length_append]
  omega
theorem hBy_len (L : List Rtn) : ∀ i, (hBy i L).length ≤ 51 * L.length := by
  induction L with
  | nil => intro i; simp [hBy]
  | cons x L ih => intro i; have h1 := hdL_len i x; have h2 := ih (i + 1); simp only [hBy, List.length_append, List.length_cons]; omega
/-- A goroutine of heads has its Sp at or above the base. -/
theorem hdsB_at {L : List Rtn} : ∀ {i : Nat} {j : Nat} {x : Rtn}, hdsB i L = true → L[j]? = some x → hdB (i + j) x.1 x.2.1 x.2.2.1 x.2.2.2.1 x.2.2.2.2.1 x.2.2.2.2.2 = true := by
  induction L with
  | nil => intro i j x h hj; simp at hj
  | cons y L ih =>
    intro i j x h hj
    simp only [hdsB, Bool.and_eq_true] at h
    rcases j with _ | j
    · simp at hj; subst hj; exact h.1
    · have := ih h.2 (by simpa using hj)
      rwa [show i + 1 + j = i + (j + 1) from by omega] at this
theorem hdB_sp {g st co sp df pn : Nat} {ky : Int} (h : hdB g st co sp df pn ky = true) : 16777216 * (g + 1) ≤ sp ∧ sp ≤ 16777216 * (g + 1) + 4096 ∧ 1 ≤ st ∧ st ≤ 3 := by
  unfold hdB at h
  simp only [Bool.and_eq_true, decide_eq_true_eq] at h
  omega
theorem hsB_n {L : List Rtn} (h : hsB L = true) : 0 < L.length ∧ L.length ≤ 16 ∧ hdsB 0 L = true := by
  simp only [hsB, Bool.and_eq_true, decide_eq_true_eq] at h; exact ⟨h.2.1, h.2.2, h.1⟩
theorem BelowX.of_keep {w w' : World} {B g : Nat} {v : Option Nat} (b : Below B w w') (h : KeepO w (some g) w' v) {C : Nat} (hC : C ≤ w.heap.size) : BelowX C g w w' :=
  ⟨b.os, b.tape, b.output, b.size, fun k hk hne => h.2.1 k (by omega) (fun e => hne (by injection e with e; exact e.symm))⟩
set_option maxRecDepth 100000 in
set_option maxHeartbeats 6400000 in
theorem writeHeads_any (A : Option Addr) (n c : Nat) (L : List Rtn) (w : World) (hr : RdT w A n L) (hn : n ≤ 1000000) :
    Calls Try.prog 42 #[.slice A n c] w fun e w' => ∃ A' c', e = .returned (.tuple #[.slice A' (whsL L).length c', .int .i64 (whsE L)]) ∧ w'.ownsRow w.heap.size 5 1 (.slice A' (whsL L).length c') (whsL L).length ((whsL L).map b8) ∧ Below w.heap.size w w' := by
  have HN := Lib.hid hr.1
  have HR := Lib.hid hr
  clear hr
  cases hh : hsB L
  · have HV := Lib.hid (show whsL L = [] ∧ whsE L = 8 from by simp [whsL, whsE, hh])
    have HH := Lib.hid hh
    clear hh
    go_enter Try.func42, Try.ntmps42
    go_wp2_with fail
    refine (areHeads_any A n c L _ HR.out hn).mono ?_
    rintro e w1 ⟨rfl, b1⟩
    rw [HH.out]
    go_wp2_with fail
    go_ret2
    exact ⟨none, 0, by rw [HV.out.1, HV.out.2]; rfl, by rw [HV.out.1]; exact World.ownsRow_nil _ _ _ _, b1⟩
  have HV0 := Lib.hid (show whsL L = hsL L ∧ whsE L = 0 from by simp [whsL, whsE, hh])
  have hb := hsB_n hh
  rw [HN.out] at hb
  have hn1 := hb.1
  have hn2 := hb.2.1
  have HD := Lib.hid hb.2.2
  have HH := Lib.hid hh
  clear hh hb
  go_enter Try.func42, Try.ntmps42
  go_wp2_with fail
  refine (areHeads_any A n c L _ HR.out hn).mono ?_
  rintro e w1 ⟨rfl, b1⟩
  rw [HH.out]
  have hq := Blk.new w1 55 #[.int .u64 (n : Int)]
  have hwn : IntKind.u64.wrap (n : Int) = (n : Int) := by rw [IntKind.wrap_u64]; omega
  go_wp2_with fail
  have HP := hput_any w1.heap.size none 0 0 [] w1.heap.size 1 1 [n] (w1.alloc (.cells #[.int .u64 (n : Int)] 55)) (World.ownsRow_nil _ _ _ _) (by rw [alloc_size]; exact Nat.le_succ _) (by simpa using hq) rfl (by intro n hn; simp at hn; omega) (by omega) (by omega)
  rw [show ([] : List UInt8) ++ vrs [n] = vry n from by simp [vrs]] at HP
  refine HP.mono ?_
  rintro e w3 ⟨A3, c3, rfl, o3, b3, _⟩
  replace o3 := own_low o3 b1.size
  have hB3 := b1.trans (((Below.refl w1.heap.size w1).alloc (Nat.le_refl _) (.cells #[.int .u64 (n : Int)] 55)).trans b3 |>.mono b1.size)
  clear b3 hq
  go_wp2_with fail
  go_loopw [4, 17] (fun v i wr => ∃ (j m : Nat) (A1 : Option Addr) (c1 : Nat), j ≤ n ∧ i = .int .i64 (j : Int) ∧ (vry n ++ hBy 0 (L.take j)).length = m ∧ v = .slice A1 m c1 ∧ wr.ownsRow w.heap.size 5 1 (.slice A1 m c1) m ((vry n ++ hBy 0 (L.take j)).map b8) ∧ Below w.heap.size w wr) (fun _ i _ => n - (intOf i).toNat)
  case atStart => exact ⟨0, (vry n).length, A3, c3, by omega, rfl, by simp [hBy], rfl, by simpa [hBy] using o3, hB3⟩
  case round =>
    obtain ⟨j, m, A1, c1, hj, rfl, hm, rfl, o1, hB⟩ := hrel
    have HM := Lib.hid hm
    have hmb : m ≤ 900 := by
      rw [← hm, List.length_append]
      have h1 := (vry_len n).2
      have h2 := hBy_len (L.take j) 0
      have h3 : (L.take j).length ≤ 16 := by rw [List.length_take]; omega
      omega
    have hm1 : 1 ≤ m := by
      rw [← hm, List.length_append]
      have h1 := (vry_len n).1
      omega
    obtain ⟨l0, hl0⟩ : ∃ l0, vry n ++ hBy 0 (L.take j) = l0 := ⟨_, rfl⟩
    rw [hl0] at o1 HM
    have HL0 := Lib.hid hl0
    clear hm hl0
    have hzz := hB.size
    by_cases hlt : j < n
    · obtain ⟨ad, st, co, sp, df, pn, ky, hA, hab, hz, ⟨x1, x2, x3, x4, x5, x6⟩, c0, c1_, c2, c3, c4, c5⟩ := (HR.out.mv hB).at_ hlt
      subst hA
      have HZ := Lib.hid (hBy_take hz)
      have hsp := hdB_sp (show hdB j st co sp df pn ky = true from by have := hdsB_at HD.out hz; rwa [Nat.zero_add] at this)
      clear hz
      replace x1 : st < 256 := x1
      replace x2 : co < 18446744073709551616 := x2
      replace x3 : sp < 18446744073709551616 := x3
      replace x4 : df < 18446744073709551616 := x4
      replace x5 : pn < 18446744073709551616 := x5
      replace x6 : -9223372036854775808 ≤ ky ∧ ky ≤ 9223372036854775807 := x6
      obtain ⟨bs, hbs⟩ : ∃ bs, 16777216 * (j + 1) = bs := ⟨_, rfl⟩
      have HBC := Lib.hid (fun W => base27_any j W (by omega))
      rw [hbs] at HBC hsp
      obtain ⟨sz, hsz⟩ : ∃ sz, (sp - bs) / 8 = sz := ⟨_, rfl⟩
      obtain ⟨dq, hdq⟩ : ∃ dq, df / 8 = dq := ⟨_, rfl⟩
      obtain ⟨pq, hpq⟩ : ∃ pq, pn / 8 = pq := ⟨_, rfl⟩
      have HDL := Lib.hid (show hdL j (st, co, sp, df, pn, ky) = UInt8.ofNat st :: (vry co ++ (vry sz ++ (vry dq ++ (vry pq ++ vry (dbl ky))))) from by rw [hdL, hbs, hsz, hdq, hpq])
      have hqd : (df : Int) / 8 = (dq : Int) := by omega
      have hqp : (pn : Int) / 8 = (pq : Int) := by omega
      have hdq2 : dq < 18446744073709551616 := by omega
      have hpq2 : pq < 18446744073709551616 := by omega
      have hwd : IntKind.u64.wrap (dq : Int) = (dq : Int) := by rw [IntKind.wrap_u64]; omega
      have hwp : IntKind.u64.wrap (pq : Int) = (pq : Int) := by rw [IntKind.wrap_u64]; omega
      clear hdq hpq
      have hw1 : IntKind.u64.wrap ((sp : Int) - (bs : Int)) = ((sp - bs : Nat) : Int) := by rw [IntKind.wrap_u64]; omega
      have hq1 : ((sp - bs : Nat) : Int) / 8 = (sz : Int) := by rw [← hsz]; omega
      obtain ⟨sb, hsb⟩ : ∃ sb, sp - bs = sb := ⟨_, rfl⟩
      rw [hsb] at hw1 hq1
      have hsz2 : sz ≤ 512 := by omega
      have hwz : IntKind.u64.wrap (sz : Int) = (sz : Int) := by rw [IntKind.wrap_u64]; omega
      have HSB := Lib.hid (And.intro hsz (And.intro hsb hbs))
      clear hsz hsb hbs
      have hk := Blk.new wr 94 #[.int .u8 (st : Int), .int .u64 (co : Int), .int .u64 (sp : Int), .int .u64 (df : Int), .int .u64 (pn : Int), .int .i64 ky]
      have z0 : (wr.alloc (.cells #[.int .u8 (st : Int), .int .u64 (co : Int), .int .u64 (sp : Int), .int .u64 (df : Int), .int .u64 (pn : Int), .int .i64 ky] 94)).cell? ⟨wr.heap.size, 0, none⟩ = some (.int .u8 (st : Int)) := (hk.cell 0).trans rfl
      have z1 : (wr.alloc (.cells #[.int .u8 (st : Int), .int .u64 (co : Int), .int .u64 (sp : Int), .int .u64 (df : Int), .int .u64 (pn : Int), .int .i64 ky] 94)).cell? ⟨wr.heap.size, 1, none⟩ = some (.int .u64 (co : Int)) := (hk.cell 1).trans rfl
      have z2 : (wr.alloc (.cells #[.int .u8 (st : Int), .int .u64 (co : Int), .int .u64 (sp : Int), .int .u64 (df : Int), .int .u64 (pn : Int), .int .i64 ky] 94)).cell? ⟨wr.heap.size, 2, none⟩ = some (.int .u64 (sp : Int)) := (hk.cell 2).trans rfl
      have z3 : (wr.alloc (.cells #[.int .u8 (st : Int), .int .u64 (co : Int), .int .u64 (sp : Int), .int .u64 (df : Int), .int .u64 (pn : Int), .int .i64 ky] 94)).cell? ⟨wr.heap.size, 3, none⟩ = some (.int .u64 (df : Int)) := (hk.cell 3).trans rfl
      have z4 : (wr.alloc (.cells #[.int .u8 (st : Int), .int .u64 (co : Int), .int .u64 (sp : Int), .int .u64 (df : Int), .int .u64 (pn : Int), .int .i64 ky] 94)).cell? ⟨wr.heap.size, 4, none⟩ = some (.int .u64 (pn : Int)) := (hk.cell 4).trans rfl
      have z5 : (wr.alloc (.cells #[.int .u8 (st : Int), .int .u64 (co : Int), .int .u64 (sp : Int), .int .u64 (df : Int), .int .u64 (pn : Int), .int .i64 ky] 94)).cell? ⟨wr.heap.size, 5, none⟩ = some (.int .i64 ky) := (hk.cell 5).trans rfl
      have y0 : ∀ ob_, ((wr.alloc (.cells #[.int .u8 (st : Int), .int .u64 (co : Int), .int .u64 (sp : Int), .int .u64 (df : Int), .int .u64 (pn : Int), .int .i64 ky] 94)).alloc ob_).cell? ⟨wr.heap.size, 0, none⟩ = some (.int .u8 (st : Int)) := fun ob_ => ((Blk.alloc hk ob_).cell 0).trans rfl
      have hkA := hk.alloc (.cells #[.int .u8 (st : Int)] 5)
      have o1A := own_alloc_ (own_alloc_ o1 (.cells #[.int .u8 (st : Int), .int .u64 (co : Int), .int .u64 (sp : Int), .int .u64 (df : Int), .int .u64 (pn : Int), .int .i64 ky] 94)) (.cells #[.int .u8 (st : Int)] 5)
      have R8 := own_rd (own_byte (w := wr.alloc (.cells #[.int .u8 (st : Int), .int .u64 (co : Int), .int .u64 (sp : Int), .int .u64 (df : Int), .int .u64 (pn : Int), .int .i64 ky] 94)) (Nat.le_refl _) x1)
      rw [alloc_size] at R8
      have hBA := (hB.alloc hzz (.cells #[.int .u8 (st : Int), .int .u64 (co : Int), .int .u64 (sp : Int), .int .u64 (df : Int), .int .u64 (pn : Int), .int .i64 ky] 94)).alloc (by rw [alloc_size]; omega) (.cells #[.int .u8 (st : Int)] 5)
      go_wp2_with (at_builtin; refine wpList_app8g rfl (.tmp 22) (.tmp 25) _ (by rfl) sl8 w.heap.size (by rfl) o1A (by rfl) R8 (m + 1) rfl (by omega) hBA.size ?_; intro A5 d5 w5 o5 hg5 b5; have hk5 := hkA.grown hg5 (fun h => own_blk_ne o1A hkA (by decide) h.symm))
      clear z0 z1 z2 z3 z4 z5 y0 c0 c1_ c2 c3 c4 c5 hkA o1A R8 hk hg5 o1
      have hB5 := hBA.trans b5
      clear hBA b5 hB
      generalize wr.heap.size = p at *
      obtain ⟨g, rfl, hgb⟩ := own_head o5 (by omega)
      have ne_o5_hk := own_blk_ne o5 hk5 (by decide)
      have hpg : p ≠ g := fun e => ne_o5_hk (by subst e; rfl)
      obtain ⟨E5, hE5⟩ : ∃ E5, l0 ++ [UInt8.ofNat st] = E5 := ⟨_, rfl⟩
      rw [hE5] at o5
      have HE5 := Lib.hid hE5
      clear hE5
      obtain ⟨E7, hE7⟩ : ∃ E7, E5 ++ vrs [co, sz, dq, pq] = E7 := ⟨_, rfl⟩
      have hE7l : E7.length ≤ 950 := by
        rw [← hE7, List.length_append, ← HE5.out, List.length_append, HM.out]
        have h1 := (vry_len co).2
        have h2 := (vry_len sz).2
        have h3 := (vry_len dq).2
        have h4 := (vry_len pq).2
        simp [vrs]
        omega
      have HV := Lib.hid hE7
      clear hE7
      have hB := hB5
      clear hB5
      have z1 := hk5.lt
      refine bx_go (g) (by kernel_rfl) (fun hQ x b => ?_)
      replace hk5 := Blk.via0 (g := p) (t := 94) b (by repeat (first | with_reducible exact hk5 | with_reducible (apply Blk.set_) | with_reducible (apply Blk.far; case hp => (simp <;> omega)) | with_reducible (apply Blk.alloc) | with_reducible (apply Blk.drew)))
      replace hk5 : Blk x p 94 #[.int .u8 (st : Int), .int .u64 (co : Int), .int .u64 (sp : Int), .int .u64 (df : Int), .int .u64 (pn : Int), .int .i64 ky] := hk5
      replace o5 := own_call (by repeat (first | with_reducible exact o5 | (with_reducible apply own_set_; case hne => first | exact ne_o5_hk5) | with_reducible (apply own_alloc_) | with_reducible (apply own_drew_))) b
      replace hB := Below.via (w := w) (by have hs_ := hB.size; repeat (first | with_reducible exact hB | with_reducible (refine Below.setCell ?_ (by simp <;> omega) _) | with_reducible (refine Below.alloc ?_ (by first | exact hs_ | (simp <;> omega)) _) | with_reducible (refine Below.drew ?_))) b
      clear z1
      clear b
      obtain ⟨B_, hB_⟩ : ∃ B_, x.heap.size = B_ := ⟨_, rfl⟩
      rw [hB_]
      have hBx : B_ ≤ x.heap.size := Nat.le_of_eq hB_.symm
      have lB_hk5 := hk5.lt
      rw [hB_] at lB_hk5
      have HB_ := Lib.hid hB_
      clear hB_
      have X2 : ∀ W, BelowX B_ g x W → W.cell? ⟨p, 0, none⟩ = some (.int .u8 (st : Int)) := fun W h => ((hk5.belowx h lB_hk5 (by omega)).cell 0).trans rfl
      have X3 : ∀ W, BelowX B_ g x W → W.cell? ⟨p, 1, none⟩ = some (.int .u64 (co : Int)) := fun W h => ((hk5.belowx h lB_hk5 (by omega)).cell 1).trans rfl
      have X4 : ∀ W, BelowX B_ g x W → W.cell? ⟨p, 2, none⟩ = some (.int .u64 (sp : Int)) := fun W h => ((hk5.belowx h lB_hk5 (by omega)).cell 2).trans rfl
      have X5 : ∀ W, BelowX B_ g x W → W.cell? ⟨p, 3, none⟩ = some (.int .u64 (df : Int)) := fun W h => ((hk5.belowx h lB_hk5 (by omega)).cell 3).trans rfl
      have X6 : ∀ W, BelowX B_ g x W → W.cell? ⟨p, 4, none⟩ = some (.int .u64 (pn : Int)) := fun W h => ((hk5.belowx h lB_hk5 (by omega)).cell 4).trans rfl
      have X7 : ∀ W, BelowX B_ g x W → W.cell? ⟨p, 5, none⟩ = some (.int .i64 ky) := fun W h => ((hk5.belowx h lB_hk5 (by omega)).cell 5).trans rfl
      refine bx_take (i := 0) (oi := ?oia0) (v := ?va0) ?hia0 (by kernel_rfl) (by kernel_rfl) (by kernel_rfl) hQ ?hwa0 ?hya0 ?resta0
      case hia0 => simp only [List.getElem?_toArray, List.getElem?_cons_zero]; rfl
      case hwa0 => rfl
      case hya0 => intro W hW; go_simp; with_reducible rfl
      simp only [Act.put, List.setIfInBounds_toArray, List.set_cons_zero, List.set_cons_succ]
      refine bx_take (i := 1) (oi := ?oia1) (v := ?va1) ?hia1 (by kernel_rfl) (by kernel_rfl) (by kernel_rfl) hQ ?hwa1 ?hya1 ?resta1
      case hia1 => simp only [List.getElem?_toArray, List.getElem?_cons_zero, List.getElem?_cons_succ]; rfl
      case hwa1 => rfl
      case hya1 => intro W hW; go_simp; with_reducible rfl
      simp only [Act.put, List.setIfInBounds_toArray, List.set_cons_zero, List.set_cons_succ]
      refine bx_take (i := 2) (oi := ?oia2) (v := ?va2) ?hia2 (by kernel_rfl) (by kernel_rfl) (by kernel_rfl) hQ ?hwa2 ?hya2 ?resta2
      case hia2 => simp only [List.getElem?_toArray, List.getElem?_cons_zero, List.getElem?_cons_succ]; rfl
      case hwa2 => rfl
      case hya2 => intro W hW; go_simp; with_reducible rfl
      simp only [Act.put, List.setIfInBounds_toArray, List.set_cons_zero, List.set_cons_succ]
      refine bx_take (i := 3) (oi := ?oia3) (v := ?va3) ?hia3 (by kernel_rfl) (by kernel_rfl) (by kernel_rfl) hQ ?hwa3 ?hya3 ?resta3
      case hia3 => simp only [List.getElem?_toArray, List.getElem?_cons_zero, List.getElem?_cons_succ]; rfl
      case hwa3 => rfl
      case hya3 => intro W hW; go_simp; with_reducible rfl
      simp only [Act.put, List.setIfInBounds_toArray, List.set_cons_zero, List.set_cons_succ]
      refine bx_take (i := 4) (oi := ?oia4) (v := ?va4) ?hia4 (by kernel_rfl) (by kernel_rfl) (by kernel_rfl) hQ ?hwa4 ?hya4 ?resta4
      case hia4 => simp only [List.getElem?_toArray, List.getElem?_cons_zero, List.getElem?_cons_succ]; rfl
      case hwa4 => rfl
      case hya4 => intro W hW; go_simp; with_reducible rfl
      simp only [Act.put, List.setIfInBounds_toArray, List.set_cons_zero, List.set_cons_succ]
      refine bx_take (i := 5) (oi := ?oia5) (v := ?va5) ?hia5 (by kernel_rfl) (by kernel_rfl) (by kernel_rfl) hQ ?hwa5 ?hya5 ?resta5
      case hia5 => simp only [List.getElem?_toArray, List.getElem?_cons_zero, List.getElem?_cons_succ]; rfl
      case hwa5 => rfl
      case hya5 => intro W hW; go_simp; with_reducible rfl
      simp only [Act.put, List.setIfInBounds_toArray, List.set_cons_zero, List.set_cons_succ]
      refine bx_take (i := 9) (oi := ?oia9) (v := ?va9) ?hia9 (by kernel_rfl) (by kernel_rfl) (by kernel_rfl) hQ ?hwa9 ?hya9 ?resta9
      case hia9 => simp only [List.getElem?_toArray, List.getElem?_cons_zero, List.getElem?_cons_succ]; rfl
      case hwa9 => rfl
      case hya9 => intro W hW; go_simp; with_reducible rfl
      simp only [Act.put, List.setIfInBounds_toArray, List.set_cons_zero, List.set_cons_succ]
      refine bx_take (i := 10) (oi := ?oia10) (v := ?va10) ?hia10 (by kernel_rfl) (by kernel_rfl) (by kernel_rfl) hQ ?hwa10 ?hya10 ?resta10
      case hia10 => simp only [List.getElem?_toArray, List.getElem?_cons_zero, List.getElem?_cons_succ]; rfl
      case hwa10 => rfl
      case hya10 => intro W hW; go_simp; with_reducible rfl
      simp only [Act.put, List.setIfInBounds_toArray, List.set_cons_zero, List.set_cons_succ]
      refine bx_take (i := 11) (oi := ?oia11) (v := ?va11) ?hia11 (by kernel_rfl) (by kernel_rfl) (by kernel_rfl) hQ ?hwa11 ?hya11 ?resta11
      case hia11 => simp only [List.getElem?_toArray, List.getElem?_cons_zero, List.getElem?_cons_succ]; rfl
      case hwa11 => rfl
      case hya11 => intro W hW; go_simp; with_reducible rfl
      simp only [Act.put, List.setIfInBounds_toArray, List.set_cons_zero, List.set_cons_succ]
      refine bx_take (i := 12) (oi := ?oia12) (v := ?va12) ?hia12 (by kernel_rfl) (by kernel_rfl) (by kernel_rfl) hQ ?hwa12 ?hya12 ?resta12
      case hia12 => simp only [List.getElem?_toArray, List.getElem?_cons_zero, List.getElem?_cons_succ]; rfl
      case hwa12 => rfl
      case hya12 => intro W hW; go_simp; with_reducible rfl
      simp only [Act.put, List.setIfInBounds_toArray, List.set_cons_zero, List.set_cons_succ]
      refine bx_take (i := 13) (oi := ?oia13) (v := ?va13) ?hia13 (by kernel_rfl) (by kernel_rfl) (by kernel_rfl) hQ ?hwa13 ?hya13 ?resta13
      case hia13 => simp only [List.getElem?_toArray, List.getElem?_cons_zero, List.getElem?_cons_succ]; rfl
      case hwa13 => rfl
      case hya13 => intro W hW; go_simp; with_reducible rfl
      simp only [Act.put, List.setIfInBounds_toArray, List.set_cons_zero, List.set_cons_succ]
      refine bx_take (i := 14) (oi := ?oia14) (v := ?va14) ?hia14 (by kernel_rfl) (by kernel_rfl) (by kernel_rfl) hQ ?hwa14 ?hya14 ?resta14
      case hia14 => simp only [List.getElem?_toArray, List.getElem?_cons_zero, List.getElem?_cons_succ]; rfl
      case hwa14 => rfl
      case hya14 => intro W hW; go_simp; with_reducible rfl
      simp only [Act.put, List.setIfInBounds_toArray, List.set_cons_zero, List.set_cons_succ]
      refine bx_step (i := 6) (oi := ?oia6) (by kernel_rfl) ?hia6 ?hwa6 (fun K hK => ?_)
      case hia6 => simp only [List.getElem?_toArray, List.getElem?_cons_zero, List.getElem?_cons_succ]; rfl
      case hwa6 => rfl
      go_simp
      refine (HBC.out _).mono ?_; rintro e wq ⟨rfl, rfl⟩; refine hK _ _ (BelowX.refl _ _ _) ?_
      try simp only [Act.put, List.setIfInBounds_toArray, List.set_cons_zero, List.set_cons_succ]
      refine bx_take (i := 7) (oi := ?oia7) (v := ?va7) ?hia7 (by kernel_rfl) (by kernel_rfl) (by kernel_rfl) hQ ?hwa7 ?hya7 ?resta7
      case hia7 => simp only [List.getElem?_toArray, List.getElem?_cons_zero, List.getElem?_cons_succ]; rfl
      case hwa7 => rfl
      case hya7 => intro W hW; go_simp; with_reducible rfl
      simp only [Act.put, List.setIfInBounds_toArray, List.set_cons_zero, List.set_cons_succ]
      refine bx_take (i := 8) (oi := ?oia8) (v := ?va8) ?hia8 (by kernel_rfl) (by kernel_rfl) (by kernel_rfl) hQ ?hwa8 ?hya8 ?resta8
      case hia8 => simp only [List.getElem?_toArray, List.getElem?_cons_zero, List.getElem?_cons_succ]; rfl
      case hwa8 => rfl
      case hya8 => intro W hW; go_simp; with_reducible rfl
      simp only [Act.put, List.setIfInBounds_toArray, List.set_cons_zero, List.set_cons_succ]
      refine bx_step (i := 15) (oi := ?oia15) (by kernel_rfl) ?hia15 ?hwa15 (fun K hK => ?_)
      case hia15 => simp only [List.getElem?_toArray, List.getElem?_cons_zero, List.getElem?_cons_succ]; rfl
      case hwa15 => rfl
      go_simp
      have b := Ext.al x (.cells #[.int .u64 (co : Int), .int .u64 (sz : Int), .int .u64 (dq : Int), .int .u64 (pq : Int)] 55); have h4 := Blk.new x 55 (List.toArray ([co, sz, dq, pq].map fun (n : Nat) => Value.int .u64 (n : Int))); clear X2 X3 X4 X5 X6 X7; replace hk5 := hk5.below b hk5.lt; replace o5 := own_call o5 b; have hzx := hB.size; replace hB := hB.trans (Below.mono b hzx); have bx := BelowX.of (Below.mono b hBx) (g); replace hBx := Nat.le_trans hBx b.size; refine hK _ _ bx ?_; clear b bx; generalize x.heap.size = p4 at *; have h4 : Blk (x.alloc (.cells #[.int .u64 (co : Int), .int .u64 (sz : Int), .int .u64 (dq : Int), .int .u64 (pq : Int)] 55)) p4 55 (List.toArray ([co, sz, dq, pq].map fun (n : Nat) => Value.int .u64 (n : Int))) := h4; generalize x.alloc (.cells #[.int .u64 (co : Int), .int .u64 (sz : Int), .int .u64 (dq : Int), .int .u64 (pq : Int)] 55) = x at *
      try simp only [Act.put, List.setIfInBounds_toArray, List.set_cons_zero, List.set_cons_succ]
      refine bx_step (i := 16) (oi := ?oia16) (by kernel_rfl) ?hia16 ?hwa16 (fun K hK => ?_)
      case hia16 => simp only [List.getElem?_toArray, List.getElem?_cons_zero, List.getElem?_cons_succ]; rfl
      case hwa16 => rfl
      go_simp
      have HP := hput_any w.heap.size (some ⟨g, 0, none⟩) (m + 1) d5 E5 p4 4 4 [co, sz, dq, pq] x o5 hB.size h4 rfl (by intro n hn; simp at hn; omega) (by omega) (by omega); rw [HV.out] at HP; refine HP.mono ?_; rintro e x7 ⟨A7, d7, rfl, o7, b7, k7⟩; have hk7 : Blk x7 p 94 #[.int .u8 (st : Int), .int .u64 (co : Int), .int .u64 (sp : Int), .int .u64 (df : Int), .int .u64 (pn : Int), .int .i64 ky] := (k7.2.1 p hk5.lt (fun e => hpg (by injection e with e; exact e.symm))).trans hk5; replace hB := hB.trans b7; refine hK _ _ (BelowX.of_keep b7 k7 hBx) ?_
      try simp only [Act.put, List.setIfInBounds_toArray, List.set_cons_zero, List.set_cons_succ]
      refine bx_take (i := 17) (oi := ?oia17) (v := ?va17) ?hia17 (by kernel_rfl) (by kernel_rfl) (by kernel_rfl) hQ ?hwa17 ?hya17 ?resta17
      case hia17 => simp only [List.getElem?_toArray, List.getElem?_cons_zero, List.getElem?_cons_succ]; rfl
      case hwa17 => rfl
      case hya17 => intro W hW; go_simp; with_reducible rfl
      simp only [Act.put, List.setIfInBounds_toArray, List.set_cons_zero, List.set_cons_succ]
      refine wpAnyH_done (by kernel_rfl) ?_ _
      simp only [NoP]
      clear HB_ hBx lB_hk5 hk5 o5 h4 b7 k7
      have z8 : x7.cell? ⟨p, 0, none⟩ = some (.int .u8 (st : Int)) := (hk7.cell 0).trans rfl
      have z9 := hk7.frozen 0
      have z10 : x7.cell? ⟨p, 1, none⟩ = some (.int .u64 (co : Int)) := (hk7.cell 1).trans rfl
      have z11 := hk7.frozen 1
      have z12 : x7.cell? ⟨p, 2, none⟩ = some (.int .u64 (sp : Int)) := (hk7.cell 2).trans rfl
      have z13 := hk7.frozen 2
      have z14 : x7.cell? ⟨p, 3, none⟩ = some (.int .u64 (df : Int)) := (hk7.cell 3).trans rfl
      have z15 := hk7.frozen 3
      have z16 : x7.cell? ⟨p, 4, none⟩ = some (.int .u64 (pn : Int)) := (hk7.cell 4).trans rfl
      have z17 := hk7.frozen 4
      have z18 : x7.cell? ⟨p, 5, none⟩ = some (.int .i64 ky) := (hk7.cell 5).trans rfl
      have z19 := hk7.frozen 5
      have z20 := hk7.lt
      go_wp2_with fail
      have ne_o7_hk7 := own_blk_ne o7 hk7 (by decide)
      with_reducible refine (signed_any ky (by omega) _).mono ?_
      rintro e w8 ⟨A8, d8, rfl, o8, bB⟩
      have ne_o8_hk7 : (Value.slice A8 (vry (dbl ky)).length d8).ownBlock ≠ some p := own_not_lt o8 (by first | omega | (simp <;> omega))
      replace o8 := own_low o8 (show w.heap.size ≤ _ from by have hs_ := hB.size; simp <;> omega)
      replace hk7 := Blk.via0 (g := p) (t := 94) bB (by repeat (first | with_reducible exact hk7 | with_reducible (apply Blk.set_) | with_reducible (apply Blk.far; case hp => (simp <;> omega)) | with_reducible (apply Blk.alloc) | with_reducible (apply Blk.drew)))
      replace hk7 : Blk w8 p 94 #[.int .u8 (st : Int), .int .u64 (co : Int), .int .u64 (sp : Int), .int .u64 (df : Int), .int .u64 (pn : Int), .int .i64 ky] := hk7
      replace o7 := own_call (by repeat (first | with_reducible exact o7 | (with_reducible apply own_set_; case hne => first | exact ne_o7_hk7) | with_reducible (apply own_alloc_) | with_reducible (apply own_drew_))) bB
      replace hB := Below.via (w := w) (by have hs_ := hB.size; repeat (first | with_reducible exact hB | with_reducible (refine Below.setCell ?_ (by simp <;> omega) _) | with_reducible (refine Below.alloc ?_ (by first | exact hs_ | (simp <;> omega)) _) | with_reducible (refine Below.drew ?_))) bB
      clear z8 z9 z10 z11 z12 z13 z14 z15 z16 z17 z18 z19 z20
      clear bB
      obtain ⟨T8, hT8⟩ : ∃ T8, vry (dbl ky) = T8 := ⟨_, rfl⟩
      have ht8 : T8.length ≤ 10 := by rw [← hT8]; exact (vry_len _).2
      rw [hT8] at o8 HDL ⊢
      clear hT8
      go_wp2_with (at_builtin; refine wpList_app8g rfl (.tmp 44) (.tmp 47) _ (by rfl) sl8 w.heap.size (by rfl) o7 (by rfl) (own_rd o8) (E7.length + T8.length) rfl (by omega) hB.size ?_; intro A9 d9 w9 o9 hg9 b9)
      go_roundw
      case rel =>
        have he : vry n ++ hBy 0 (L.take (j + 1)) = E7 ++ T8 := by
          rw [HZ.out, ← List.append_assoc, HL0.out, HDL.out, ← HV.out, ← HE5.out]; simp [vrs]
        exact ⟨j + 1, E7.length + T8.length, A9, d9, by omega, by go_num, by rw [he, List.length_append], rfl, by rw [he]; exact o9, hB.trans b9⟩
      case measure => simp [intOf]; omega
    · obtain rfl : j = n := by omega
      have hll : l0 = hsL L := by rw [← HL0.out, List.take_of_length_le (by rw [HN.out]; omega), hsL, HN.out]
      have hlm : m = (hsL L).length := by rw [← hll]; exact HM.out.symm
      subst hlm
      go_wp2_with fail
      go_ret2
      exact ⟨A1, c1, by rw [HV0.out.1, HV0.out.2]; rfl, by rw [HV0.out.1, ← hll]; rw [← hll] at o1; exact o1, hB⟩

end Go.Proofs.Ytldaijkcmnnjpaa
