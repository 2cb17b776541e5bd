/- The contracts of the reference's numbers and Decode of a script. Each states its conditions. -/
import Derived.Test.YtgobebiagpejkaaScr9
namespace Go.Proofs.Ytgobebiagpejkaa
open Go.RowKit Wire
set_option linter.unusedVariables false

theorem toI_okU {L : List Nat} (h : ∀ v ∈ L, v ≤ 1000000) : okU (toI L) := by
  intro z hz
  obtain ⟨a, ha, rfl⟩ := List.mem_map.1 hz
  have := h a ha
  omega
theorem toI_inj {L M : List Nat} (h : toI L = toI M) : L = M := by
  have h2 := congrArg (List.map Int.toNat) h
  simp only [toI, List.map_map] at h2
  have e : (Int.toNat ∘ fun (a : Nat) => (a : Int)) = id := by funext a; simp
  rw [e, List.map_id, List.map_id] at h2
  exact h2
theorem codN_ge (L : List Nat) : L.length ≤ (codN L).length := by
  induction L with
  | nil => simp
  | cons a L ih =>
    have := (vry_len a).1
    rw [show codN (a :: L) = vry a ++ codN L from by simp [codN], List.length_append, List.length_cons]
    omega
def Nums (l : List UInt8) (L : List Nat) : Prop := codN L = l ∧ ∀ v ∈ L, v ≤ 1000000
theorem nm_fail {l : List UInt8} {L : List Nat} {k : Nat} (hl : l.length ≤ 200000) (hk : k < l.length) (hL : codN L = l.take k) (hb : ∀ v ∈ L, v ≤ 1000000) (he : uvE l (k : Int) 1000000 ≠ 0) : ¬ ∃ L', Nums l L' := by
  rintro ⟨L', h1, h2⟩
  obtain ⟨L'', e1, e2⟩ := cod_split (toI L) (toI L') (l.drop k) (toI_okU hb) (toI_okU h2) (by
    rw [show cod (toI L) = codN L from codN_cod L, show cod (toI L') = codN L' from codN_cod L', hL, h1, List.take_append_drop])
  rcases L'' with _ | ⟨z, t⟩
  · rw [cod_nil] at e2
    have := congrArg List.length e2
    rw [List.length_drop, List.length_nil] at this
    omega
  · rw [cod_cons] at e2
    have hz : z ∈ toI L' := by rw [e1]; simp
    obtain ⟨a, ha, rfl⟩ := List.mem_map.1 hz
    have ha2 := h2 a ha
    rw [Int.toNat_natCast] at e2
    exact he (uv_mk (by omega) hl (uvR_at (by omega) e2.symm) ha2 none 0 0).1
theorem full_nums {st sk hp rt : Int} {ps : List Int} (h : scB st sk hp rt ps = true) : ∃ M : List Nat, toI M = fullL st sk hp rt ps ∧ ∀ v ∈ M, v ≤ 1000000 := by
  obtain ⟨h1, h2, h3, h4, h5, h6⟩ := sc_parts h
  have hb : ∀ z ∈ fullL st sk hp rt ps, 0 ≤ z ∧ z ≤ 1000000 := by
    intro z hz
    unfold fullL at hz
    rw [List.mem_append] at hz
    rcases hz with hz | hz
    · simp at hz; omega
    · have := h6 z hz; omega
  generalize fullL st sk hp rt ps = F at *
  refine ⟨F.map Int.toNat, ?_, fun v hv => ?_⟩
  · unfold toI
    rw [List.map_map]
    conv => rhs; rw [← List.map_id F]
    exact List.map_congr_left fun z hz => by have := hb z hz; simp; omega
  · obtain ⟨z, hz, rfl⟩ := List.mem_map.1 hv
    have := hb z hz
    omega
/-- What the numbers say of Decode. -/
theorem dc_none {l : List UInt8} (h : ¬ ∃ L, Nums l L) : dcB l = false := by
  cases hd : dcB l
  · rfl
  · exfalso
    obtain ⟨h1, h2⟩ := dc_yes hd
    obtain ⟨M, e1, e2⟩ := full_nums h1
    exact h ⟨M, by rw [← codN_cod, show (M.map fun (a : Nat) => (a : Int)) = toI M from rfl, e1, h2], e2⟩
theorem dc_some {l : List UInt8} {L : List Nat} (h : Nums l L) (hd : dcB l = true) : toI L = fullL (r1 l).1 (r2 l).1 (r3 l).1 (r4 l).1 (toI (r6 l).1) := by
  obtain ⟨h1, h2⟩ := dc_yes hd
  exact cod_inj (toI_okU h.2) (okU_full h1) (by rw [h2, show cod (toI L) = codN L from codN_cod L, h.1])
theorem five_of {L : List Nat} (h : ¬ L.length < 5) : ∃ x0 x1 x2 x3 x4 t, L = x0 :: x1 :: x2 :: x3 :: x4 :: t := by
  match L, h with
  | x0 :: x1 :: x2 :: x3 :: x4 :: t, _ => exact ⟨x0, x1, x2, x3, x4, t, rfl⟩
  | [], h => exact absurd (by simp) h
  | [_], h => exact absurd (by simp) h
  | [_, _], h => exact absurd (by simp) h
  | [_, _, _], h => exact absurd (by simp) h
  | [_, _, _, _], h => exact absurd (by simp) h
theorem dc_short {l : List UInt8} {L : List Nat} (h : Nums l L) (h5 : L.length < 5) : dcB l = false := by
  cases hd : dcB l
  · rfl
  · exfalso
    have e := congrArg List.length (dc_some h hd)
    simp [toI, fullL] at e
    omega
theorem dc_count {l : List UInt8} {x0 x1 x2 x3 x4 : Nat} {t : List Nat} (h : Nums l (x0 :: x1 :: x2 :: x3 :: x4 :: t)) (hx : x4 ≠ t.length) : dcB l = false := by
  cases hd : dcB l
  · rfl
  · exfalso
    have e := dc_some h hd
    simp only [toI, fullL, List.map_cons, List.cons_append, List.nil_append, List.cons.injEq, List.length_map] at e
    obtain ⟨_, _, _, _, e5, e6⟩ := e
    have e7 := congrArg List.length e6
    simp only [List.length_map] at e7
    omega
theorem dc_five {l : List UInt8} {x0 x1 x2 x3 : Nat} {t : List Nat} (hl : l.length ≤ 200000) (h : Nums l (x0 :: x1 :: x2 :: x3 :: t.length :: t)) :
    dcB l = scB x0 x1 x2 x3 (toI t) ∧ (dcB l = true → ((r1 l).1 : Int) = x0 ∧ ((r2 l).1 : Int) = x1 ∧ ((r3 l).1 : Int) = x2 ∧ ((r4 l).1 : Int) = x3 ∧ toI (r6 l).1 = toI t) := by
  have hF : toI (x0 :: x1 :: x2 :: x3 :: t.length :: t) = fullL x0 x1 x2 x3 (toI t) := by simp [toI, fullL]
  have hc : cod (fullL x0 x1 x2 x3 (toI t)) = l := by rw [← hF, show cod (toI _) = codN _ from codN_cod _, h.1]
  cases hs : scB x0 x1 x2 x3 (toI t)
  · have hd : dcB l = false := by
      cases hd : dcB l
      · rfl
      · exfalso
        have e := dc_some h hd
        rw [hF] at e
        obtain ⟨e1, e2, e3, e4, e5⟩ := full_inj e
        have h1 := (dc_yes hd).1
        rw [← e1, ← e2, ← e3, ← e4, ← e5, hs] at h1
        cases h1
    exact ⟨hd, fun h9 => by rw [hd] at h9; cases h9⟩
  · obtain ⟨h1, h2⟩ := dc_no hl hs hc
    exact ⟨h1, fun _ => h2⟩
def NmPost (w : World) (l : List UInt8) (e : Ending) (w' : World) : Prop :=
  ((∃ L A' c', Nums l L ∧ e = .returned (.tuple #[.slice A' L.length c', .bool true]) ∧ RdI w' w'.heap.size A' L.length (toI L) ∧ L.length ≤ c') ∨
   ((¬ ∃ L, Nums l L) ∧ e = .returned (.tuple #[.slice none 0 0, .bool false]))) ∧ Below w.heap.size w w'

set_option maxRecDepth 100000 in
set_option maxHeartbeats 8000000 in
theorem numbers_any (A : Option Addr) (n c : Nat) (l : List UInt8) (w : World) (hr : Rb w A n l) (hn : n ≤ 6100) :
    Calls Try.prog 36 #[.slice A n c] w fun e w' => NmPost w l e w' := by
  have HL := Lib.hid hr.len8
  have hB0 := Ext.al w (.cells #[.slice A n c, .int .i64 0] 68)
  have hk0 := Blk.new w 68 #[.slice A n c, .int .i64 0]
  have R0 := hr.below hB0
  have HU := Lib.hid (fun (k : Nat) W (h : Rb W A n l) (hk : k ≤ n) => reunvary_any A n c l (k : Int) 1000000 W h (by omega) (by omega) (by omega))
  clear hr
  go_enter Try.func36, Try.ntmps36
  go_wp2_with fail
  go_loopw [4] (fun v wr => ∃ (k m : Nat) (L : List Nat) (A1 : Option Addr) (c1 : Nat), k ≤ n ∧ v = .slice A1 m c1 ∧ L.length = m ∧ m ≤ k ∧ codN L = l.take k ∧ (∀ v ∈ L, v ≤ 1000000) ∧ Blk wr w.heap.size 68 #[.slice A n c, .int .i64 (k : Int)] ∧
      wr.ownsRow (w.heap.size + 1) 3 1 (.slice A1 m c1) m ((toI L).map vI) ∧ RdB wr w.heap.size A n l ∧ Below w.heap.size w wr) (fun _ wr => match wr.cell? ⟨w.heap.size, 1, none⟩ with | some x => n - (intOf x).toNat | none => 0)
  case atStart => exact ⟨0, 0, [], none, 0, by omega, rfl, rfl, by omega, by simp [codN], by simp, hk0, World.ownsRow_nil _ _ _ _, R0, hB0⟩
  case round =>
    clear hk0 R0 hB0
    obtain ⟨k, m, L, A1, c1, hk, rfl, hm, hmk, hcod, hbd, hkb, hown, R, hB⟩ := hrel
    have HM := Lib.hid (And.intro hm (And.intro hcod hbd))
    clear hm hcod hbd
    have ck0 : wr.cell? ⟨w.heap.size, 0, none⟩ = some (.slice A n c) := (hkb.cell 0).trans rfl
    have ck1 : wr.cell? ⟨w.heap.size, 1, none⟩ = some (.int .i64 (k : Int)) := (hkb.cell 1).trans rfl
    by_cases hlt : k < n
    · go_wp2_with fail
      refine (HU.out k _ (R.more hB.size) hk).mono ?_
      rintro e w6 ⟨rfl, b⟩
      have hkb6 := hkb.below b hkb.lt
      have R6 := R.below (b.mono hB.size)
      have hown6 := own_call hown b
      have hB6 := hB.trans (b.mono hB.size)
      have hlt6 := hkb6.lt
      by_cases he : uvE l (k : Int) 1000000 = 0
      · obtain ⟨hu1, hu2, hu3⟩ := uv_zero he
        obtain ⟨g1, g2, g3, g4⟩ := uvR_le hu2
        rw [HL.out, Int.toNat_natCast] at g3
        rw [Int.toNat_natCast] at g4
        have HC := Lib.hid (show uvC A n c l (k : Int) 1000000 = cur A n c (((k + (uvR l (k : Int)).2.2 : Nat)) : Int) from by simp [uvC, he])
        have HN := Lib.hid (show uvN l (k : Int) 1000000 = (uvR l (k : Int)).2.1 from by simp [uvN, he])
        have HT := Lib.hid (show l.take (k + (uvR l (k : Int)).2.2) = l.take k ++ vry (uvR l (k : Int)).2.1 from by rw [List.take_add, g4])
        have HE := Lib.hid he
        have g2' : k < k + (uvR l (k : Int)).2.2 := by omega
        clear he hu2 g4 hu1 g2
        generalize (uvR l (k : Int)).2.1 = v at *
        generalize k + (uvR l (k : Int)).2.2 = k2 at *
        rw [HC.out, HN.out, HE.out]
        have b2 := (Ext.al w6 (.cells #[.slice A n c, .int .i64 (k2 : Int)] 68))
        have h7 := Blk.new w6 68 #[.slice A n c, .int .i64 (k2 : Int)]
        have hkb7 := hkb6.below b2 hkb6.lt
        have hown7 := own_call hown6 b2
        have hB7 := hB6.trans (Below.mono b2 hB6.size)
        have R7 := R6.below (Below.mono b2 hB6.size)
        have b3 := (Ext.al (w6.alloc (.cells #[.slice A n c, .int .i64 (k2 : Int)] 68)) (.cells #[.int .i64 (v : Int)] 3))
        have h8 := h7.below b3 h7.lt
        have hkb8 := hkb7.below b3 hkb7.lt
        have hown8 := own_call hown7 b3
        have hB8 := hB7.trans (Below.mono b3 hB7.size)
        have R8 := R7.below (Below.mono b3 hB7.size)
        have RO := (reads_row (w6.alloc (.cells #[.slice A n c, .int .i64 (k2 : Int)] 68)) [.int .i64 (v : Int)] 3).more (Nat.le_of_eq (alloc_size (w6.alloc (.cells #[.slice A n c, .int .i64 (k2 : Int)] 68)) (.cells #[.int .i64 (v : Int)] 3)).symm)
        have hl8 := h8.lt
        have hsz8 : ((w6.alloc (.cells #[.slice A n c, .int .i64 (k2 : Int)] 68)).alloc (.cells #[.int .i64 (v : Int)] 3)).heap.size = w6.heap.size + 2 := by simp
        have hsz7 : (w6.alloc (.cells #[.slice A n c, .int .i64 (k2 : Int)] 68)).heap.size = w6.heap.size + 1 := alloc_size _ _
        have cz0 : (w6.alloc (.cells #[.slice A n c, .int .i64 (k2 : Int)] 68)).cell? ⟨w.heap.size, 0, none⟩ = some (.slice A n c) := (hkb7.cell 0).trans rfl
        rw [hsz7] at RO
        clear ck0 ck1 hsz7 hl8
        go_wp2_with (at_builtin; refine wpList_app rfl (.tmp 24) (.tmp 27) _ (by rfl) slI (w.heap.size + 1) _ m _ (by rfl) hown8 _ (some ⟨w6.heap.size + 1, 0, none⟩) 1 1 [.int .i64 (v : Int)] (by rfl) RO (by simp [Value.oneCell']) (by omega) (by omega) ?_; intro A9 c9 w9 o9 hg9 b9 hc9; have hm9 := own_blk_ne hown8 h8 (by decide : (3 : Nat) ≠ 68); have h9 := h8.grown hg9 (fun h => hm9 h.symm); have hkb9 := hkb8.below b9 (by omega); have R9 := R8.below (b9.mono (by omega)); have hB9 := hB8.trans (b9.mono (by omega)); have s0 : w9.cell? ⟨w6.heap.size, 0, none⟩ = some (.slice A n c) := (h9.cell 0).trans rfl; have s1 : w9.cell? ⟨w6.heap.size, 1, none⟩ = some (.int .i64 (k2 : Int)) := (h9.cell 1).trans rfl; have t0 : w9.cell? ⟨w.heap.size, 0, none⟩ = some (.slice A n c) := (hkb9.cell 0).trans rfl; have t1 : w9.cell? ⟨w.heap.size, 1, none⟩ = some (.int .i64 (k : Int)) := (hkb9.cell 1).trans rfl; have tf0 := hkb9.frozen 0; have tf1 := hkb9.frozen 1)
        go_roundw
        case rel => exact ⟨k2, m + 1, L ++ [v], A9, c9, g3, rfl, by rw [List.length_append, HM.out.1]; rfl, by omega, by rw [codN_snoc, HM.out.2.1, HT.out], fun q hq => by rw [List.mem_append, List.mem_singleton] at hq; exact hq.elim (HM.out.2.2 q) (fun h => by rw [h]; exact hu3), (hkb9.set_ 0 (.slice A n c)).set_ 1 (.int .i64 (k2 : Int)), own_far (own_far (by rw [toI, List.map_append, List.map_append]; exact o9) (by omega) _) (by omega) _, (R9.setCell (p := ⟨w.heap.size, 0, none⟩) (Nat.le_refl _) _).setCell (p := ⟨w.heap.size, 1, none⟩) (Nat.le_refl _) _, (hB9.setCell (p := ⟨w.heap.size, 0, none⟩) (Nat.le_refl _) _).setCell (p := ⟨w.heap.size, 1, none⟩) (Nat.le_refl _) _⟩
        case measure =>
          have q1 : ((w9.setCell ⟨w.heap.size, 0, none⟩ (.slice A n c)).setCell ⟨w.heap.size, 1, none⟩ (.int .i64 (k2 : Int))).cell? ⟨w.heap.size, 1, none⟩ = some (.int .i64 (k2 : Int)) := ((((hkb9.set_ 0 (.slice A n c)).set_ 1 (.int .i64 (k2 : Int))).cell 1)).trans rfl
          have q2 : wr.cell? ⟨w.heap.size, 1, none⟩ = some (.int .i64 (k : Int)) := (hkb.cell 1).trans rfl
          rw [q1, q2]
          simp [intOf]; omega
      · have HX := Lib.hid (nm_fail (l := l) (L := L) (k := k) (by rw [HL.out]; omega) (by rw [HL.out]; exact hlt) HM.out.2.1 HM.out.2.2 he)
        have HC := Lib.hid (uv_bad (l := l) (a := (k : Int)) (most := 1000000) A n c rfl he)
        rw [HC.out.1, HC.out.2]
        have hb0 : (uvE l (k : Int) 1000000 != 0) = true := by rw [bne_iff_ne]; exact he
        clear HC HU he
        generalize uvE l (k : Int) 1000000 = e0 at *
        have hB7 := hB6.alloc hB6.size (.cells #[.slice none 0 0, .int .i64 0] 68)
        clear ck0 ck1
        go_wp2_with fail
        go_ret2
        unfold NmPost
        exact ⟨.inr ⟨HX.out, rfl⟩, hB7⟩
    · have HT := Lib.hid (show l.take k = l from List.take_of_length_le (by rw [HL.out]; omega))
      go_wp2_with fail
      go_ret2
      unfold NmPost
      refine ⟨.inl ⟨L, A1, c1, ⟨by rw [HM.out.2.1, HT.out], HM.out.2.2⟩, ?_, ?_, ?_⟩, hB⟩
      · rw [HM.out.1]; rfl
      · rw [HM.out.1]; exact own_reads hown
      · rw [HM.out.1]; exact (own_cap hown).1

end Go.Proofs.Ytgobebiagpejkaa
