/- The contract of Write. Each states its conditions. -/
import Derived.Test.YteaaiacgebikpaaSec3
import Derived.ArgAppend
import Derived.Lib.SlBytesConst
namespace Go.Proofs.Yteaaiacgebikpaa
open Go.RowKit Wire Crc
set_option linter.unusedVariables false

/-- A row of bytes that are written out. -/
theorem own_lit {w : World} {base : Nat} (hb : base ≤ w.heap.size) (l : List UInt8) (hl : l.length ≤ 1000) : (w.alloc (.cells (l.map b8).toArray 5)).ownsRow base 5 1 (.slice (some ⟨w.heap.size, 0, none⟩) l.length l.length) l.length (l.map b8) :=
  ⟨by simp, .inr ⟨_, _, _, rfl, hb, heap_alloc_new w _, Nat.le_refl _, by unfold maxLen; omega, by simp, by rw [Nat.mul_one]; exact List.take_of_length_le (by simp)⟩⟩
def sumL (L : List (Nat × List UInt8)) : Nat := (lens L).sum
/-- The bytes of a section in the directory. -/
def entL (at_ : Nat) (p : Nat × List UInt8) : List UInt8 := UInt8.ofNat p.1 :: (ltl 4 at_ ++ (ltl 4 p.2.length ++ ltl 4 (nxt 0 p.2)))
def dirL (at_ : Nat) : List (Nat × List UInt8) → List UInt8
  | [] => []
  | p :: r => entL at_ p ++ dirL (at_ + p.2.length) r
def hedL (L : List (Nat × List UInt8)) : List UInt8 := [87, 82, 67, 75, 1, UInt8.ofNat L.length] ++ dirL (10 + 13 * L.length) L
def datL (L : List (Nat × List UInt8)) : List UInt8 := (L.map (·.2)).flatten
def secL (L : List (Nat × List UInt8)) : List UInt8 := hedL L ++ (ltl 4 (nxt 0 (hedL L)) ++ datL L)
def wrL (L : List (Nat × List UInt8)) : List UInt8 := if ckS L = 0 then secL L else []
theorem dirL_app (l m : List (Nat × List UInt8)) : ∀ a, dirL a (l ++ m) = dirL a l ++ dirL (a + sumL l) m := by
  induction l with
  | nil => intro a; simp [dirL, sumL, lens]
  | cons p l ih => intro a; simp only [List.cons_append, dirL, ih, List.append_assoc]; congr 3; simp [sumL, lens]; omega
theorem dirL_take {L : List (Nat × List UInt8)} {j : Nat} {p : Nat × List UInt8} (a : Nat) (h : L[j]? = some p) : dirL a (L.take (j + 1)) = dirL a (L.take j) ++ entL (a + sumL (L.take j)) p ∧ sumL (L.take (j + 1)) = sumL (L.take j) + p.2.length ∧ datL (L.take (j + 1)) = datL (L.take j) ++ p.2 := by
  rw [List.take_add_one, h]
  refine ⟨?_, ?_, ?_⟩
  · rw [dirL_app]; simp [dirL]
  · simp [sumL, lens]
  · simp [datL]
theorem entL_len (a : Nat) (p : Nat × List UInt8) : (entL a p).length = 13 := by simp [entL, ltl_len]
theorem dirL_len (L : List (Nat × List UInt8)) : ∀ a, (dirL a L).length = 13 * L.length := by
  induction L with
  | nil => intro a; rfl
  | cons p r ih => intro a; simp only [dirL, List.length_append, entL_len, ih, List.length_cons]; omega
theorem datL_len (L : List (Nat × List UInt8)) : (datL L).length = sumL L := by
  induction L with
  | nil => rfl
  | cons p r ih => simp only [datL, List.map_cons, List.flatten_cons, List.length_append, sumL, lens, List.sum_cons] at ih ⊢; omega
theorem lenR_sum {l : List Nat} : ∀ {n m : Nat}, lenR n l = some m → m = n + l.sum ∧ (l = [] ∨ m ≤ 200000) := by
  induction l with
  | nil => intro n m h; unfold lenR at h; injection h with h; exact ⟨by simp [h], .inl rfl⟩
  | cons s r ih =>
    intro n m h
    unfold lenR at h
    split at h
    · cases h
    · rename_i hs
      have := ih h
      refine ⟨by simp only [List.sum_cons]; omega, .inr ?_⟩
      rcases this.2 with h2 | h2
      · rw [h2] at this; simp at this; omega
      · exact h2
theorem ckS_ok {L : List (Nat × List UInt8)} (h : ckS L = 0) : L.length ≤ 7 ∧ ordB 0 L = true ∧ 10 + 13 * L.length + sumL L ≤ 200000 := by
  have ho : ordB 0 L = true := by
    cases hb : ordB 0 L with
    | true => rfl
    | false => rw [ckS_no hb] at h; omega
  have hl := ordB_len (by omega) ho
  rw [ckS_yes ho] at h
  cases hb : lnB (lens L) with
  | false => rw [hb] at h; simp at h
  | true =>
    unfold lnB lnR at hb
    obtain ⟨m, hm⟩ := Option.isSome_iff_exists.1 hb
    have := lenR_sum hm
    refine ⟨by omega, ho, ?_⟩
    have hll : (lens L).length = L.length := by simp [lens]
    rw [hll] at this
    unfold sumL
    rcases this.2 with h2 | h2
    · rw [h2] at this ⊢
      have : L.length = 0 := by rw [← hll, h2]; rfl
      simp; omega
    · omega
theorem sum_take (L : List (Nat × List UInt8)) (j : Nat) : sumL (L.take j) ≤ sumL L := by
  induction L generalizing j with
  | nil => simp
  | cons p r ih =>
    cases j with
    | zero => simp [sumL, lens]
    | succ j =>
      have := ih j
      simp only [sumL, lens, List.take_succ_cons, List.map_cons, List.sum_cons] at this ⊢
      omega
theorem size32 : ∀ w, (sizeOf 57).run Try.prog w = .ok 1 w := fun w => by kernel_rfl
theorem idx3 (x y z i : Nat) (hi : i < 3) (w : World) : (Instr.index 69 (.agg #[.int .u32 (x : Int), .int .u32 (y : Int), .int .u32 (z : Int)]) (.int .i64 (i : Int))).run Try.prog w = .ok (.int .u32 ((if i = 0 then x else if i = 1 then y else z : Nat) : Int)) w :=
  run_index_arr 69 57 .u32 3 Try.underlying69 Try.underlying57 size32 (fun i => if i = 0 then x else if i = 1 then y else z) i hi w
theorem nxt_lt (l : List UInt8) : nxt 0 l < 4294967296 := by unfold nxt cpl; omega

set_option maxRecDepth 100000 in
set_option maxHeartbeats 6400000 in
theorem write25_any (A : Option Addr) (n c : Nat) (L : List (Nat × List UInt8)) (w : World) (hr : RdS w A n L) (hn : n ≤ 1000000) :
    Calls Try.prog 18 #[.slice A n c] w fun e w' => ∃ A' c', e = .returned (.tuple #[.slice A' (wrL L).length c', .int .i64 (ckS L)]) ∧ w'.ownsRow w.heap.size 5 1 (.slice A' (wrL L).length c') (wrL L).length ((wrL L).map b8) ∧ Below w.heap.size w w' := by
  have HN := Lib.hid hr.1
  have HR := Lib.hid hr
  clear hr
  go_enter Try.func18, Try.ntmps18
  go_wp2_with fail
  refine (check25_any A n c L _ HR.out hn).mono ?_
  rintro e w1 ⟨rfl, hB0⟩
  by_cases hz0 : ckS L = 0
  rotate_left
  · have HE := Lib.hid (show wrL L = [] from by rw [wrL, if_neg hz0])
    obtain ⟨v, hv⟩ : ∃ v, ckS L = v := ⟨_, rfl⟩
    rw [hv] at hz0 ⊢
    have hd : (v != 0) = true := by simpa using hz0
    have HV := Lib.hid hv
    clear hv hz0
    go_wp2_with fail
    go_ret2
    exact ⟨none, 0, by rw [HE.out, HV.out]; rfl, by rw [HE.out]; exact World.ownsRow_nil _ _ _ _, hB0⟩
  have HE := Lib.hid (show wrL L = secL L from by rw [wrL, if_pos hz0])
  have HCK := Lib.hid hz0
  obtain ⟨k1, k2, k3⟩ := ckS_ok hz0
  rw [HN.out] at k1 k3
  rw [hz0]
  obtain ⟨SM, hSM⟩ : ∃ SM, sumL L = SM := ⟨_, rfl⟩
  rw [hSM] at k3
  have HST := Lib.hid (fun j => (hSM ▸ sum_take L j : sumL (L.take j) ≤ SM))
  have HLB := Lib.hid (show ∀ p ∈ L, p.2.length ≤ SM from fun p hp => by
    rw [← hSM]
    obtain ⟨k, hk, hkp⟩ := List.mem_iff_getElem.1 hp
    have h1 := (dirL_take 0 (show L[k]? = some p from by rw [List.getElem?_eq_getElem hk, hkp])).2.1
    have h2 := sum_take L (k + 1)
    omega)
  have HSM := Lib.hid (show 10 + 13 * n + sumL L ≤ 200000 from by rw [hSM]; exact k3)
  clear hz0 k2 hSM
  go_wp2_with fail
  refine (table_any _).mono ?_
  rintro e w2 ⟨rfl, b2⟩
  have hz := Lib.hid (zero_of_info tab_zero).1
  have hT0 := Blk.new w2 58 (arr .u32 256 el)
  have hB2 := hB0.trans (b2.mono hB0.size)
  have hB3 := hB2.alloc hB2.size (.cells (arr .u32 256 el) 58)
  have hwn : IntKind.u8.wrap (n : Int) = (n : Int) := by rw [IntKind.wrap_u8]; omega
  have vn : (UInt8.ofNat n).toNat = n := by rw [UInt8.toNat_ofNat']; omega
  obtain ⟨W3, hW3⟩ : ∃ W3, w2.alloc (.cells (arr .u32 256 el) 58) = W3 := ⟨_, rfl⟩
  have hW3s : W3.heap.size = w2.heap.size + 1 := by rw [← hW3, alloc_size]
  rw [hW3] at hT0 hB3
  have KC := Lib.run_convert_bytes_const (P := Try.prog) W3 22 5 #[.int .u8 87, .int .u8 82, .int .u8 67, .int .u8 75] 4 4 Try.underlying22 Try.underlying5
  obtain ⟨OM, hOM⟩ : ∃ OM : Obj, OM = .cells #[.int .u8 87, .int .u8 82, .int .u8 67, .int .u8 75] 5 (4, 5) := ⟨_, rfl⟩
  have hU4 : OwU (W3.alloc OM) w.heap.size (some ⟨W3.heap.size, 0, none⟩) 4 [87, 82, 67, 75] := ⟨rfl, .inr ⟨W3.heap.size, _, 4, 5, rfl, hB3.size, by rw [hOM]; exact heap_alloc_new _ _, .inl (by omega), fun j u hj => by
    rcases j with _ | _ | _ | _ | j
    · simp at hj; subst hj; rfl
    · simp at hj; subst hj; rfl
    · simp at hj; subst hj; rfl
    · simp at hj; subst hj; rfl
    · simp at hj⟩⟩
  have R4 := (hU4.al (.cells #[.int .u8 1, .int .u8 (n : Int)] 5)).rd
  obtain ⟨adl, hadl, _, hcl⟩ := R4.2 (by omega)
  have RR : Rb ((W3.alloc OM).alloc (.cells #[.int .u8 1, .int .u8 (n : Int)] 5)) (some ⟨W3.heap.size + 1, 0, none⟩) 2 [1, UInt8.ofNat n] := by
    have h := reads_bytes (W3.alloc OM) [1, UInt8.ofNat n] 5
    rw [alloc_size, show ([1, UInt8.ofNat n].map b8).toArray = #[.int .u8 1, .int .u8 (n : Int)] from by simp [b8, vn]] at h
    exact h
  obtain ⟨adn, hadn, _, hcn⟩ := RR.2 (by omega)
  injection hadl with hadl
  injection hadn with hadn
  subst hadl hadn
  have hT1 := ((hT0.alloc OM).alloc (.cells #[.int .u8 1, .int .u8 (n : Int)] 5))
  have hB4 := (hB3.alloc hB3.size OM)
  have hB5 := hB4.alloc hB4.size (.cells #[.int .u8 1, .int .u8 (n : Int)] 5)
  obtain ⟨i0, hi0, hz0_, hs0, hb0⟩ := info_parts sl8.hi
  rw [hOM] at hcl hcn hT1 hB5
  clear hB0 b2 hT0 hU4 R4 RR hB4 hOM
  subst hW3
  rw [alloc_size] at hcl hcn KC
  go_wp2_with (first
    | (refine wpList_alloc_big rfl 58 rfl _ hz.out ?_)
    | (refine wpList_store_new rfl 58 _ _ rfl w2 rfl _ (arr .u32 256 el) rfl (tab_sized _) (by rw [arr_size, arr_size]) (arr_one _ _ _) ?_)
    | (at_builtin; refine wpList_append_grows _ rfl (.tmp 25) (.tmp 29) 22 rfl 5 i0 (.int .u8 0) 1 1 sl8.ht hi0 hz0_ hs0 hb0 rfl (by omega) (some ⟨w2.heap.size + 1, 0, none⟩) 4 4 ([87, 82, 67, 75].map b8) (by rfl) (by simp) rfl (fun b hb => by injection hb with hb; subst hb; exact hcl) ⟨w2.heap.size + 1 + 1, 0, none⟩ 2 2 ([1, UInt8.ofNat n].map b8) (by rfl) rfl hcn (b8_one _) (by omega) (by unfold maxLen; omega) (by omega) ?_; intro v6 w6 o6 g6; obtain ⟨A6, c6, rfl, _, _, _⟩ := own_slice o6; simp only [Nat.reduceAdd] at o6 ⊢))
  rw [← List.map_append, show [87, 82, 67, 75] ++ [1, UInt8.ofNat n] = [87, 82, 67, 75, 1, UInt8.ofNat n] from rfl] at o6
  have o7 := own_low o6 hB5.size
  have hT6 := hT1.grown g6 (fun e_ => by cases e_)
  have hB6 := hB5.grown g6 hB5.size (fun k hk => by cases hk)
  have hgw := hB2.size
  clear o6 hT1 hB5 g6 hcl hcn KC hB2 hB3 hi0 hz0_ hs0 hb0 hW3s
  generalize w2.heap.size = g at *
  obtain ⟨a0, ha0⟩ : ∃ a0, 10 + 13 * n = a0 := ⟨_, rfl⟩
  go_loopw [6, 7, 38] (fun v a i wr => ∃ (j at_ : Nat) (lb : List UInt8) (A1 : Option Addr) (c1 : Nat), j ≤ n ∧ i = .int .i64 (j : Int) ∧ a = .int .i64 (at_ : Int) ∧ at_ = a0 + sumL (L.take j) ∧ lb = [87, 82, 67, 75, 1, UInt8.ofNat n] ++ dirL a0 (L.take j) ∧ v = .slice A1 lb.length c1 ∧ wr.ownsRow w.heap.size 5 1 (.slice A1 lb.length c1) lb.length (lb.map b8) ∧ Blk wr g 58 (arr .u32 256 el) ∧ Below w.heap.size w wr) (fun _ _ i _ => n - (intOf i).toNat)
  case atStart => exact ⟨0, a0, [87, 82, 67, 75, 1, UInt8.ofNat n], A6, c6, by omega, rfl, by go_num, by simp [sumL, lens], by simp [dirL], rfl, o7, hT6, hB6⟩
  case round =>
    clear o7 hT6 hB6
    obtain ⟨j, at_, lb, A1, c1, hj, rfl, rfl, hat, hlb, rfl, o1, hT, hB⟩ := hrel
    have hst := HST.out j
    have hlbl : lb.length ≤ 200 := by
      rw [hlb, List.length_append, dirL_len]
      have : (L.take j).length ≤ 7 := by rw [List.length_take]; have := HN.out; omega
      simp; omega
    have HAT := Lib.hid hat
    have HLB2 := Lib.hid hlb
    have hatb : at_ ≤ 200000 := by omega
    clear hat hlb
    by_cases hlt : j < n
    · obtain ⟨ad, b, l, Ai, ci, hA, hab, hz_, c0, c1_, hci, hrl, hb256⟩ := (HR.out.mv hB).at_ hlt
      subst hA
      have hlSM := HLB.out _ (List.mem_of_getElem? hz_)
      have HZ := Lib.hid (dirL_take a0 hz_)
      simp only at hlSM
      have hll : l.length ≤ 200000 := by omega
      clear hz_
      have hRL := Reads.al hrl (.cells #[.int .u8 (b : Int), .slice Ai l.length ci] 32)
      have hTq := hT.alloc (.cells #[.int .u8 (b : Int), .slice Ai l.length ci] 32)
      have hq := Blk.new wr 32 #[.int .u8 (b : Int), .slice Ai l.length ci]
      have oq := own_alloc_ o1 (.cells #[.int .u8 (b : Int), .slice Ai l.length ci] 32)
      have hBq := hB.alloc hB.size (.cells #[.int .u8 (b : Int), .slice Ai l.length ci] 32)
      have z0 : (wr.alloc (.cells #[.int .u8 (b : Int), .slice Ai l.length ci] 32)).cell? ⟨wr.heap.size, 0, none⟩ = some (.int .u8 (b : Int)) := (hq.cell 0).trans rfl
      have z1 : (wr.alloc (.cells #[.int .u8 (b : Int), .slice Ai l.length ci] 32)).cell? ⟨wr.heap.size, 1, none⟩ = some (.slice Ai l.length ci) := (hq.cell 1).trans rfl
      have hnx := Lib.hid (show nxtV true l.length 0 l = nxt 0 l from by simp [nxtV]; omega)
      have hne := Lib.hid (show nxtE true l.length = 0 from by simp [nxtE]; omega)
      clear hrl
      go_wp2_with (refine wpList_load_row rfl 58 (.tmp 5) rfl g rfl _ _ (0, 0) _ hTq Try.underlying58 rfl (tab_sized _) ?_)
      refine (sum_all el true (eqn_refl _ _) Ai l.length ci l _ hRL (by omega)).mono ?_
      rintro e w3 ⟨rfl, b3⟩
      rw [hnx.out, hne.out]
      have hcs := nxt_lt l
      obtain ⟨cs, hcse⟩ : ∃ cs, nxt 0 l = cs := ⟨_, rfl⟩
      rw [hcse] at hcs ⊢
      have HCS := Lib.hid hcse
      clear hcse
      have hT3 := hTq.below b3 hTq.lt
      have hq3 := hq.below b3 hq.lt
      have o3 := own_alloc_ (own_call oq b3) (.cells #[.int .u8 (b : Int)] 5)
      have hB3 := hBq.trans (b3.mono hBq.size)
      have hB3a := hB3.alloc hB3.size (.cells #[.int .u8 (b : Int)] 5)
      have vb : (UInt8.ofNat b).toNat = b := by rw [UInt8.toNat_ofNat']; omega
      have RB : Rb (w3.alloc (.cells #[.int .u8 (b : Int)] 5)) (some ⟨w3.heap.size, 0, none⟩) 1 [UInt8.ofNat b] := by
        have h := reads_bytes w3 [UInt8.ofNat b] 5
        rw [show ([UInt8.ofNat b].map b8).toArray = #[.int .u8 (b : Int)] from by simp [b8, vb]] at h
        exact h
      clear z0 z1 hRL c0 c1_ hTq hq oq hBq o1 hT
      obtain ⟨qq, hqq⟩ : ∃ qq, wr.heap.size = qq := ⟨_, rfl⟩
      rw [hqq] at hq3 ⊢
      have y0 : w3.cell? ⟨qq, 0, none⟩ = some (.int .u8 (b : Int)) := (hq3.cell 0).trans rfl
      have y1 : w3.cell? ⟨qq, 1, none⟩ = some (.slice Ai l.length ci) := (hq3.cell 1).trans rfl
      have hT3a := hT3.alloc (.cells #[.int .u8 (b : Int)] 5)
      have hq3a := hq3.alloc (.cells #[.int .u8 (b : Int)] 5)
      obtain ⟨N1, hN1⟩ : ∃ N1, lb.length + 1 = N1 := ⟨_, rfl⟩
      have wat : IntKind.u32.wrap (at_ : Int) = (at_ : Int) := by rw [IntKind.wrap_u32]; omega
      have wll : IntKind.u32.wrap (l.length : Int) = (l.length : Int) := by rw [IntKind.wrap_u32]; omega
      have hqB : w.heap.size ≤ qq := by rw [← hqq]; exact hB.size
      clear hqq hB
      go_wp2_with (at_builtin; refine wpList_app8g (l := lb) rfl (.tmp 49) (.tmp 52) _ (by rfl) sl8 w.heap.size (by rfl) o3 (by rfl) RB N1 (by omega) (by omega) hB3a.size ?_; intro A4 c4 w4 o4 hg_ b4; have hq4 := hq3a.grown hg_ (fun e_ => own_blk_ne o3 hq3a (by decide) e_.symm); have u0 : w4.cell? ⟨qq, 0, none⟩ = some (.int .u8 (b : Int)) := (hq4.cell 0).trans rfl; have u1 : w4.cell? ⟨qq, 1, none⟩ = some (.slice Ai l.length ci) := (hq4.cell 1).trans rfl)
      have hT4 := hT3a.grown hg_ (fun e_ => own_blk_ne o3 hT3a (by decide) e_.symm)
      have hB4 := hB3a.trans b4
      obtain ⟨l1, hl1⟩ : ∃ l1, lb ++ [UInt8.ofNat b] = l1 := ⟨_, rfl⟩
      have hl1l : l1.length = N1 := by rw [← hl1, List.length_append]; exact hN1
      rw [hl1] at o4
      have HL1 := Lib.hid hl1
      clear hT3 hq3 o3 hB3 hB3a RB y0 y1 hT3a hq3a hg_ b4 u0 u1 hl1
      subst hl1l
      go_loopw [6, 62] (fun v y wr => ∃ (t : Nat) (l2 : List UInt8) (A2 : Option Addr) (c2 : Nat), t ≤ 3 ∧ y = .int .i64 (t : Int) ∧ l2 = l1 ++ (([ltl 4 at_, ltl 4 l.length, ltl 4 cs].take t).flatten) ∧ v = .slice A2 l2.length c2 ∧ wr.ownsRow w.heap.size 5 1 (.slice A2 l2.length c2) l2.length (l2.map b8) ∧ Blk wr g 58 (arr .u32 256 el) ∧ Blk wr qq 32 #[.int .u8 (b : Int), .slice Ai l.length ci] ∧ Below w.heap.size w wr) (fun _ y _ => 3 - (intOf y).toNat)
      case atStart => exact ⟨0, l1, A4, c4, by omega, rfl, by simp, rfl, o4, hT4, hq4, hB4⟩
      case round =>
        clear o4 hT4 hq4 hB4
        obtain ⟨t, l2, A2, c2, ht, rfl, hl2, rfl, o2, hT, hq, hB⟩ := hrel
        have hl2l : l2.length ≤ 220 := by
          rw [hl2, List.length_append]
          have : (([ltl 4 at_, ltl 4 l.length, ltl 4 cs].take t).flatten).length ≤ 12 := by
            rcases t with _ | _ | _ | _ | t
            · simp
            · simp [ltl_len]
            · simp [ltl_len]
            · simp [ltl_len]
            · omega
          omega
        have HL2 := Lib.hid hl2
        clear hl2
        rcases t with _ | _ | _ | _ | t
        · have KI : ∀ W, (Instr.index 69 (.agg #[.int .u32 (at_ : Int), .int .u32 (l.length : Int), .int .u32 (cs : Int)]) (.int .i64 0)).run Try.prog W = .ok (.int .u32 (at_ : Int)) W := fun W => idx3 at_ l.length cs 0 (by omega) W
          go_wp2_with fail
          refine (fixed25_any at_ (by omega) _).mono ?_
          rintro e w5 ⟨A5, c5, rfl, o5, b5⟩
          have o2b := own_call o2 b5
          have hT5 := hT.below b5 hT.lt
          have hq5 := hq.below b5 hq.lt
          have hB5 := hB.trans (b5.mono hB.size)
          obtain ⟨NN, hNN⟩ : ∃ NN, l2.length + 4 = NN := ⟨_, rfl⟩
          go_wp2_with (at_builtin; refine wpList_app8g (l := l2) rfl (.tmp 65) (.tmp 67) _ (by rfl) sl8 w.heap.size (by rfl) o2b (by rfl) (own_rd o5) NN (by omega) (by omega) hB5.size ?_; intro A6 c6 w6 o6 hg_ b6)
          have hT6 := hT5.grown hg_ (fun e_ => own_blk_ne o2b hT5 (by decide) e_.symm)
          have hq6 := hq5.grown hg_ (fun e_ => own_blk_ne o2b hq5 (by decide) e_.symm)
          have hB6 := hB5.trans b6
          go_roundw
          case rel => exact ⟨1, l2 ++ ltl 4 at_, A6, c6, by omega, by go_num, by rw [HL2.out]; simp, by rw [List.length_append, ltl_len, hNN], by rw [List.length_append, ltl_len, hNN]; exact o6, hT6, hq6, hB6⟩
          case measure => simp [intOf]
        · have KI : ∀ W, (Instr.index 69 (.agg #[.int .u32 (at_ : Int), .int .u32 (l.length : Int), .int .u32 (cs : Int)]) (.int .i64 1)).run Try.prog W = .ok (.int .u32 (l.length : Int)) W := fun W => idx3 at_ l.length cs 1 (by omega) W
          go_wp2_with fail
          refine (fixed25_any l.length (by omega) _).mono ?_
          rintro e w5 ⟨A5, c5, rfl, o5, b5⟩
          have o2b := own_call o2 b5
          have hT5 := hT.below b5 hT.lt
          have hq5 := hq.below b5 hq.lt
          have hB5 := hB.trans (b5.mono hB.size)
          obtain ⟨NN, hNN⟩ : ∃ NN, l2.length + 4 = NN := ⟨_, rfl⟩
          go_wp2_with (at_builtin; refine wpList_app8g (l := l2) rfl (.tmp 65) (.tmp 67) _ (by rfl) sl8 w.heap.size (by rfl) o2b (by rfl) (own_rd o5) NN (by omega) (by omega) hB5.size ?_; intro A6 c6 w6 o6 hg_ b6)
          have hT6 := hT5.grown hg_ (fun e_ => own_blk_ne o2b hT5 (by decide) e_.symm)
          have hq6 := hq5.grown hg_ (fun e_ => own_blk_ne o2b hq5 (by decide) e_.symm)
          have hB6 := hB5.trans b6
          go_roundw
          case rel => exact ⟨2, l2 ++ ltl 4 l.length, A6, c6, by omega, by go_num, by rw [HL2.out]; simp, by rw [List.length_append, ltl_len, hNN], by rw [List.length_append, ltl_len, hNN]; exact o6, hT6, hq6, hB6⟩
          case measure => simp [intOf]
        · have KI : ∀ W, (Instr.index 69 (.agg #[.int .u32 (at_ : Int), .int .u32 (l.length : Int), .int .u32 (cs : Int)]) (.int .i64 2)).run Try.prog W = .ok (.int .u32 (cs : Int)) W := fun W => idx3 at_ l.length cs 2 (by omega) W
          go_wp2_with fail
          refine (fixed25_any cs (by omega) _).mono ?_
          rintro e w5 ⟨A5, c5, rfl, o5, b5⟩
          have o2b := own_call o2 b5
          have hT5 := hT.below b5 hT.lt
          have hq5 := hq.below b5 hq.lt
          have hB5 := hB.trans (b5.mono hB.size)
          obtain ⟨NN, hNN⟩ : ∃ NN, l2.length + 4 = NN := ⟨_, rfl⟩
          go_wp2_with (at_builtin; refine wpList_app8g (l := l2) rfl (.tmp 65) (.tmp 67) _ (by rfl) sl8 w.heap.size (by rfl) o2b (by rfl) (own_rd o5) NN (by omega) (by omega) hB5.size ?_; intro A6 c6 w6 o6 hg_ b6)
          have hT6 := hT5.grown hg_ (fun e_ => own_blk_ne o2b hT5 (by decide) e_.symm)
          have hq6 := hq5.grown hg_ (fun e_ => own_blk_ne o2b hq5 (by decide) e_.symm)
          have hB6 := hB5.trans b6
          go_roundw
          case rel => exact ⟨3, l2 ++ ltl 4 cs, A6, c6, by omega, by go_num, by rw [HL2.out]; simp, by rw [List.length_append, ltl_len, hNN], by rw [List.length_append, ltl_len, hNN]; exact o6, hT6, hq6, hB6⟩
          case measure => simp [intOf]
        · have hfull : l2 = lb ++ entL at_ (b, l) := by rw [HL2.out, ← HL1.out]; simp [entL, HCS.out]
          have HF := Lib.hid hfull
          have u1 : wr.cell? ⟨qq, 1, none⟩ = some (.slice Ai l.length ci) := (hq.cell 1).trans rfl
          clear hfull
          go_wp2_with fail
          go_roundw
          case rel => exact ⟨j + 1, at_ + l.length, l2, A2, c2, by omega, by go_num, by go_num, by rw [HZ.out.2.1, HAT.out]; omega, by rw [HF.out, HZ.out.1, HLB2.out, HAT.out, List.append_assoc], rfl, o2, hT, hB⟩
          case measure => simp [intOf]; omega
        · omega
    · obtain rfl : n = j := by omega
      have hlh : lb = hedL L := by rw [HLB2.out, List.take_of_length_le (by rw [HN.out]; omega), hedL, HN.out, ha0]
      have HLH := Lib.hid hlh
      clear hlh HST
      have hnx := Lib.hid (show nxtV true lb.length 0 lb = nxt 0 lb from by simp [nxtV]; omega)
      have hne := Lib.hid (show nxtE true lb.length = 0 from by simp [nxtE]; omega)
      go_wp2_with (refine wpList_load_row rfl 58 (.tmp 5) rfl g rfl _ _ (0, 0) _ hT Try.underlying58 rfl (tab_sized _) ?_)
      refine (sum_all el true (eqn_refl _ _) A1 lb.length c1 lb _ (own_rd o1) (by omega)).mono ?_
      rintro e w3 ⟨rfl, b3⟩
      rw [hnx.out, hne.out]
      have hcs := nxt_lt lb
      obtain ⟨cs, hcse⟩ : ∃ cs, nxt 0 lb = cs := ⟨_, rfl⟩
      rw [hcse] at hcs ⊢
      have HCS := Lib.hid hcse
      clear hcse
      have o3 := own_call o1 b3
      have hB3 := hB.trans (b3.mono hB.size)
      clear o1 hT
      go_wp2_with fail
      refine (fixed25_any cs hcs _).mono ?_
      rintro e w5 ⟨A5, c5, rfl, o5, b5⟩
      have o3b := own_call o3 b5
      have hB5 := hB3.trans (b5.mono hB3.size)
      obtain ⟨NN, hNN⟩ : ∃ NN, lb.length + 4 = NN := ⟨_, rfl⟩
      go_wp2_with (at_builtin; refine wpList_app8g (l := lb) rfl (.tmp 82) (.tmp 84) _ (by rfl) sl8 w.heap.size (by rfl) o3b (by rfl) (own_rd o5) NN (by omega) (by omega) hB5.size ?_; intro A6 c6 w6 o6 hg_ b6)
      have hB6 := hB5.trans b6
      obtain ⟨lh, hlh⟩ : ∃ lh, lb ++ ltl 4 cs = lh := ⟨_, rfl⟩
      have hlhl : lh.length = NN := by rw [← hlh, List.length_append, ltl_len]; exact hNN
      rw [hlh] at o6
      have HLX := Lib.hid hlh
      have hNNb : NN ≤ 210 := by omega
      clear o3 o3b o5 b5 b6 hg_ hlh hNN hB3 hB
      subst hlhl
      go_loopw [6, 88] (fun v i wr => ∃ (j : Nat) (lb : List UInt8) (A1 : Option Addr) (c1 : Nat), j ≤ n ∧ i = .int .i64 (j : Int) ∧ lb = lh ++ datL (L.take j) ∧ v = .slice A1 lb.length c1 ∧ wr.ownsRow w.heap.size 5 1 (.slice A1 lb.length c1) lb.length (lb.map b8) ∧ Below w.heap.size w wr) (fun _ i _ => n - (intOf i).toNat)
      case atStart => exact ⟨0, lh, A6, c6, by omega, rfl, by simp [datL], rfl, o6, hB6⟩
      case round =>
        clear o6 hB6
        obtain ⟨k, l2, A2, c2, hk, rfl, hl2, rfl, o2, hB⟩ := hrel
        have hl2l : l2.length ≤ 200300 := by
          rw [hl2, List.length_append, datL_len]
          have := sum_take L k
          have := HSM.out
          omega
        have HL2 := Lib.hid hl2
        clear hl2
        by_cases hlk : k < n
        · obtain ⟨ad, b, l, Ai, ci, hA, hab, hz_, c0, c1_, hci, hrl, hb256⟩ := (HR.out.mv hB).at_ hlk
          subst hA
          have hlSM := HLB.out _ (List.mem_of_getElem? hz_)
          have HZ := Lib.hid (dirL_take 0 hz_)
          simp only at hlSM
          clear hz_
          have hRL := Reads.al hrl (.cells #[.int .u8 (b : Int), .slice Ai l.length ci] 32)
          have hq := Blk.new wr 32 #[.int .u8 (b : Int), .slice Ai l.length ci]
          have oq := own_alloc_ o2 (.cells #[.int .u8 (b : Int), .slice Ai l.length ci] 32)
          have hBq := hB.alloc hB.size (.cells #[.int .u8 (b : Int), .slice Ai l.length ci] 32)
          have z0 : (wr.alloc (.cells #[.int .u8 (b : Int), .slice Ai l.length ci] 32)).cell? ⟨wr.heap.size, 0, none⟩ = some (.int .u8 (b : Int)) := (hq.cell 0).trans rfl
          have z1 : (wr.alloc (.cells #[.int .u8 (b : Int), .slice Ai l.length ci] 32)).cell? ⟨wr.heap.size, 1, none⟩ = some (.slice Ai l.length ci) := (hq.cell 1).trans rfl
          obtain ⟨N3, hN3⟩ : ∃ N3, l2.length + l.length = N3 := ⟨_, rfl⟩
          clear hrl
          go_wp2_with (at_builtin; refine wpList_app8g (l := l2) rfl (.tmp 92) (.tmp 94) _ (by rfl) sl8 w.heap.size (by rfl) oq (by rfl) hRL N3 (by omega) (by omega) hBq.size ?_; intro A7 c7 w7 o7 hg_ b7)
          have hB7 := hBq.trans b7
          go_roundw
          case rel => exact ⟨k + 1, l2 ++ l, A7, c7, by omega, by go_num, by rw [HL2.out, HZ.out.2.2, List.append_assoc], by rw [List.length_append, hN3], by rw [List.length_append, hN3]; exact o7, hB7⟩
          case measure => simp [intOf]; omega
        · obtain rfl : k = n := by omega
          have hfin : l2 = wrL L := by rw [HE.out, HL2.out, ← HLX.out, List.take_of_length_le (by rw [HN.out]; omega), ← HCS.out, HLH.out, secL, List.append_assoc]
          have HF := Lib.hid hfin
          clear hfin
          go_wp2_with fail
          go_ret2
          exact ⟨A2, c2, by rw [← HF.out, HCK.out]; rfl, by rw [← HF.out]; exact o2, hB⟩

end Go.Proofs.Yteaaiacgebikpaa
