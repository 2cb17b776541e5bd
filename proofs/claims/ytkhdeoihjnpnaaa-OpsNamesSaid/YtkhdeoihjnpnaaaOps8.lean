/- The contracts of names, Name, Op and slices.Index. Each states its conditions. -/
import Derived.Test.YtkhdeoihjnpnaaaOps7
import Derived.Test.YtkhdeoihjnpnaaaArr
import Derived.BigQuiet
import Derived.Laws.Strings
namespace Go.Proofs.Ytkhdeoihjnpnaaa
open Go.RowKit Wire
set_option linter.unusedVariables false

/-- The names of all operations. -/
def nmL : List ByteArray := [⟨#[]⟩, ⟨#[105, 110, 116]⟩, ⟨#[116, 101, 120, 116]⟩, ⟨#[98, 111, 111, 108]⟩, ⟨#[122, 101, 114, 111]⟩, ⟨#[99, 111, 112, 121]⟩, ⟨#[97, 100, 100]⟩, ⟨#[115, 117, 98]⟩, ⟨#[109, 117, 108]⟩, ⟨#[100, 105, 118]⟩, ⟨#[108, 101, 115, 115]⟩, ⟨#[115, 97, 109, 101]⟩, ⟨#[110, 111, 116]⟩, ⟨#[102, 105, 101, 108, 100]⟩, ⟨#[112, 117, 116]⟩, ⟨#[110, 101, 119]⟩, ⟨#[108, 111, 97, 100]⟩, ⟨#[115, 116, 111, 114, 101]⟩, ⟨#[109, 97, 107, 101]⟩, ⟨#[97, 116]⟩, ⟨#[115, 101, 116]⟩, ⟨#[108, 101, 110]⟩, ⟨#[106, 117, 109, 112]⟩, ⟨#[98, 114, 97, 110, 99, 104]⟩, ⟨#[97, 114, 103]⟩, ⟨#[99, 97, 108, 108]⟩, ⟨#[100, 101, 102, 101, 114]⟩, ⟨#[103, 111]⟩, ⟨#[112, 97, 110, 105, 99]⟩, ⟨#[114, 101, 99, 111, 118, 101, 114]⟩, ⟨#[101, 120, 105, 116]⟩, ⟨#[121, 105, 101, 108, 100]⟩, ⟨#[98, 108, 111, 99, 107]⟩, ⟨#[119, 97, 107, 101]⟩, ⟨#[114, 101, 116, 117, 114, 110]⟩]
def nmA : Array Value := #[.string ⟨#[]⟩, .string ⟨#[105, 110, 116]⟩, .string ⟨#[116, 101, 120, 116]⟩, .string ⟨#[98, 111, 111, 108]⟩, .string ⟨#[122, 101, 114, 111]⟩, .string ⟨#[99, 111, 112, 121]⟩, .string ⟨#[97, 100, 100]⟩, .string ⟨#[115, 117, 98]⟩, .string ⟨#[109, 117, 108]⟩, .string ⟨#[100, 105, 118]⟩, .string ⟨#[108, 101, 115, 115]⟩, .string ⟨#[115, 97, 109, 101]⟩, .string ⟨#[110, 111, 116]⟩, .string ⟨#[102, 105, 101, 108, 100]⟩, .string ⟨#[112, 117, 116]⟩, .string ⟨#[110, 101, 119]⟩, .string ⟨#[108, 111, 97, 100]⟩, .string ⟨#[115, 116, 111, 114, 101]⟩, .string ⟨#[109, 97, 107, 101]⟩, .string ⟨#[97, 116]⟩, .string ⟨#[115, 101, 116]⟩, .string ⟨#[108, 101, 110]⟩, .string ⟨#[106, 117, 109, 112]⟩, .string ⟨#[98, 114, 97, 110, 99, 104]⟩, .string ⟨#[97, 114, 103]⟩, .string ⟨#[99, 97, 108, 108]⟩, .string ⟨#[100, 101, 102, 101, 114]⟩, .string ⟨#[103, 111]⟩, .string ⟨#[112, 97, 110, 105, 99]⟩, .string ⟨#[114, 101, 99, 111, 118, 101, 114]⟩, .string ⟨#[101, 120, 105, 116]⟩, .string ⟨#[121, 105, 101, 108, 100]⟩, .string ⟨#[98, 108, 111, 99, 107]⟩, .string ⟨#[119, 97, 107, 101]⟩, .string ⟨#[114, 101, 116, 117, 114, 110]⟩]
theorem nmA_eq : nmA = (nmL.map Value.string).toArray := rfl
def nmG (op : Nat) : ByteArray := nmL.getD op ⟨#[]⟩
def nmE (op : Nat) : Int := if 1 ≤ op ∧ op ≤ 34 then 0 else 6
theorem nm_len : nmL.length = 35 := rfl
theorem nm_size : (Try.prog.info? 61).map (·.size) = some nmA.size := by kernel_rfl
theorem nmT : AggT Try.prog 61 35 := ⟨⟨_, Try.underlying61, rfl⟩, by kernel_rfl⟩
def nmZ : Array Value := #[.string ⟨#[]⟩, .string ⟨#[]⟩, .string ⟨#[]⟩, .string ⟨#[]⟩, .string ⟨#[]⟩, .string ⟨#[]⟩, .string ⟨#[]⟩, .string ⟨#[]⟩, .string ⟨#[]⟩, .string ⟨#[]⟩, .string ⟨#[]⟩, .string ⟨#[]⟩, .string ⟨#[]⟩, .string ⟨#[]⟩, .string ⟨#[]⟩, .string ⟨#[]⟩, .string ⟨#[]⟩, .string ⟨#[]⟩, .string ⟨#[]⟩, .string ⟨#[]⟩, .string ⟨#[]⟩, .string ⟨#[]⟩, .string ⟨#[]⟩, .string ⟨#[]⟩, .string ⟨#[]⟩, .string ⟨#[]⟩, .string ⟨#[]⟩, .string ⟨#[]⟩, .string ⟨#[]⟩, .string ⟨#[]⟩, .string ⟨#[]⟩, .string ⟨#[]⟩, .string ⟨#[]⟩, .string ⟨#[]⟩, .string ⟨#[]⟩]
theorem nm_zero : (Try.prog.info? 61).map (fun i => (i.zero, i.size)) = some (some (.agg nmZ), 35) := by kernel_rfl
theorem wpList_val {P : Program} {ops : Array Oper} {rest : List Oper} {o : Oper} {a : Act} {w : World} {Q : Exit → Act → World → Prop} (hgd : o.guard = none) {v : Value} (h : (execOp a.eval o).run P w = .ok (.value v) w) (hk : wpList P ops Q rest (a.put o.dst v) w) : wpList P ops Q (o :: rest) a w :=
  wpList_plain hgd fun _ hK => by unfold Oper.wp; rw [h]; exact hK _ _ hk
theorem nm_one : nmA.all (·.oneCell') = true := by kernel_rfl
theorem nm_at {op : Nat} (h : op < 35) : nmA[op]? = some (.string (nmG op)) := by
  have h2 : op < nmL.length := h
  rw [nmA_eq]
  unfold nmG
  rw [List.getElem?_toArray, List.getElem?_map, List.getElem?_eq_getElem h2, List.getD_eq_getElem?_getD, List.getElem?_eq_getElem h2]
  rfl
theorem nm_out {op : Nat} (h : 35 ≤ op) : nmG op = ⟨#[]⟩ := by
  unfold nmG
  rw [List.getD_eq_getElem?_getD, List.getElem?_eq_none (by exact h)]; rfl
theorem tl_inj {s t : ByteArray} : s.toList = t.toList ↔ s = t := by
  rw [ByteArray.toList_eq, ByteArray.toList_eq]
  constructor
  · intro h
    cases s; cases t
    congr 1
    exact Array.toList_inj.1 h
  · rintro rfl; rfl
theorem tl_yes (s : ByteArray) : (s.toList == s.toList) = true := by simp
theorem tl_no {s t : ByteArray} (h : ¬ s = t) : (s.toList == t.toList) = false := by rw [beq_eq_false_iff_ne]; exact fun e => h (tl_inj.1 e)

set_option maxRecDepth 100000 in
set_option maxHeartbeats 1600000 in
theorem names_any (w : World) :
    Calls Try.prog 24 #[] w fun e w' => e = .returned (.agg nmA) ∧ Below w.heap.size w w' := by
  have hz := (zero_of_info nm_zero).1
  go_enter Try.func24, Try.ntmps24
  go_wp2_with (first
    | (with_reducible refine wpList_alloc_big rfl 61 rfl nmZ hz ?_)
    | (refine wpList_store_new rfl 61 (.tmp 0) (.tmp 1) rfl w rfl nmZ nmA rfl nm_size (by rfl) nm_one ?_)
    | (refine wpList_val rfl (v := .agg nmA) (by kernel_rfl) ?_))
  refine ret_c rfl nmT rfl (Blk.new _ _ _) (by rfl) ?_
  exact ⟨rfl, (Below.refl w.heap.size w).alloc (Nat.le_refl _) _⟩

set_option maxRecDepth 100000 in
set_option maxHeartbeats 1600000 in
theorem name6_any (op : Nat) (hop : op < 256) (w : World) :
    Calls Try.prog 13 #[.int .u8 (op : Int)] w fun e w' => e = .returned (.tuple #[.string (nmG op), .int .i64 (nmE op)]) ∧ Below w.heap.size w w' := by
  by_cases h0 : op = 0
  · subst h0
    have HE := Lib.hid (show nmE 0 = 6 ∧ nmG 0 = ⟨#[]⟩ from ⟨rfl, rfl⟩)
    go_enter Try.func13, Try.ntmps13
    go_wp2_with fail
    refine (names_any _).mono ?_
    rintro e w1 ⟨rfl, b1⟩
    have hz := (zero_of_info nm_zero).1
    have hB := b1.alloc b1.size (.cells nmA 61)

    go_wp2_with (first | (with_reducible refine wpList_alloc_big rfl 61 rfl nmZ hz ?_) | refine wpList_store_new rfl 61 (.tmp 4) (.tmp 5) rfl w1 rfl _ nmA rfl nm_size (by rfl) nm_one ?_)
    go_ret2
    exact ⟨by rw [HE.out.1, HE.out.2]; rfl, hB⟩
  by_cases h1 : 35 ≤ op
  · have HE := Lib.hid (show nmE op = 6 ∧ nmG op = ⟨#[]⟩ from ⟨by rw [nmE, if_neg (by omega)], nm_out h1⟩)
    have d0 : ((op : Int) == 0) = false := by simp; omega
    go_enter Try.func13, Try.ntmps13
    go_wp2_with fail
    refine (names_any _).mono ?_
    rintro e w1 ⟨rfl, b1⟩
    have hz := (zero_of_info nm_zero).1
    have hB := b1.alloc b1.size (.cells nmA 61)

    go_wp2_with (first | (with_reducible refine wpList_alloc_big rfl 61 rfl nmZ hz ?_) | refine wpList_store_new rfl 61 (.tmp 4) (.tmp 5) rfl w1 rfl _ nmA rfl nm_size (by rfl) nm_one ?_)
    go_ret2
    exact ⟨by rw [HE.out.1, HE.out.2]; rfl, hB⟩
  have HE := Lib.hid (show nmE op = 0 from by rw [nmE, if_pos (by omega)])
  have d0 : ((op : Int) == 0) = false := by simp; omega
  have j1 : (op : Int) < 35 := by omega
  go_enter Try.func13, Try.ntmps13
  go_wp2_with fail
  refine (names_any _).mono ?_
  rintro e w1 ⟨rfl, b1⟩
  have hz := (zero_of_info nm_zero).1
  have hB := b1.alloc b1.size (.cells nmA 61)
  have c0 : (w1.alloc (.cells nmA 61)).cell? ⟨w1.heap.size, op, none⟩ = some (.string (nmG op)) := ((Blk.new w1 61 nmA).cell op).trans (nm_at (by omega))
  go_wp2_with (first | (with_reducible refine wpList_alloc_big rfl 61 rfl nmZ hz ?_) | refine wpList_store_new rfl 61 (.tmp 4) (.tmp 5) rfl w1 rfl _ nmA rfl nm_size (by rfl) nm_one ?_)
  go_ret2
  exact ⟨by rw [HE.out]; rfl, hB⟩

def ixS (l : List ByteArray) (s : ByteArray) : Int := match l.findIdx? (fun t => decide (s = t)) with | some i => (i : Int) | none => -1
theorem ix_no {l : List ByteArray} {s : ByteArray} (h : ∀ t ∈ l, ¬ s = t) : ixS l s = -1 := by
  unfold ixS
  have : l.findIdx? (fun t => decide (s = t)) = none := by
    rw [List.findIdx?_eq_none_iff]
    intro t ht
    simpa using h t ht
  rw [this]
theorem ix_yes {l : List ByteArray} {s : ByteArray} {j : Nat} (h0 : ∀ t ∈ l.take j, ¬ s = t) (hj : l[j]? = some s) : ixS l s = j := by
  unfold ixS
  have : l.findIdx? (fun t => decide (s = t)) = some j := by
    obtain ⟨hl, he⟩ := List.getElem?_eq_some_iff.1 hj
    rw [List.findIdx?_eq_some_iff_getElem]
    refine ⟨hl, by simpa using he.symm, fun i hi => ?_⟩
    have := h0 l[i] (by rw [List.mem_take_iff_getElem]; exact ⟨i, by omega, rfl⟩)
    simpa using this
  rw [this]

set_option maxRecDepth 100000 in
set_option maxHeartbeats 1600000 in
theorem index6_any (A : Option Addr) (n c : Nat) (l : List ByteArray) (s : ByteArray) (w : World) (hr : Reads w w.heap.size 1 A n (l.map Value.string)) (hn : n ≤ 1000) :
    Calls Try.prog 25 #[.slice A n c, .string s] w fun e w' => e = .returned (.int .i64 (ixS l s)) ∧ w = w' := by
  have HL := Lib.hid (show l.length = n from by simpa using hr.1)
  go_enter Try.func25, Try.ntmps25
  go_wp2_with fail
  go_loopw [8] (fun i wr => ∃ j : Nat, j ≤ n ∧ i = .int .i64 (j : Int) ∧ (∀ t ∈ l.take j, ¬ s = t) ∧ w = wr) (fun i _ => n - (intOf i).toNat)
  case atStart => exact ⟨0, by omega, rfl, by simp, rfl⟩
  case round =>
    obtain ⟨j, hj, rfl, h0, rfl⟩ := hrel
    have H0 := Lib.hid h0
    clear h0
    by_cases hlt : j < n
    · have hjl : j < l.length := by rw [HL.out]; exact hlt
      obtain ⟨ad, u, rfl, hb, hx, hc⟩ := hr.at_ hlt
      rw [List.getElem?_map, List.getElem?_eq_getElem hjl] at hx
      simp at hx
      obtain ⟨t, ht⟩ : ∃ t, l[j] = t := ⟨_, rfl⟩
      rw [ht] at hx
      subst hx
      have HT := Lib.hid (show l[j]? = some t from by rw [List.getElem?_eq_getElem hjl, ht])
      clear ht hjl hb
      by_cases he : s = t
      · subst he
        have HI := Lib.hid (ix_yes H0.out HT.out)
        have q := tl_yes s
        go_wp2_with fail
        go_ret
        exact ⟨by rw [HI.out]; rfl, by trivial⟩
      · have q := tl_no he
        have HN := Lib.hid (show ∀ t ∈ l.take (j + 1), ¬ s = t from by
          intro t' ht'
          rw [take_succ_of HT.out] at ht'
          rcases List.mem_append.1 ht' with h | h
          · exact H0.out t' h
          · simp at h; subst h; exact he)
        clear he
        go_wp2_with fail
        go_roundw
        case rel => exact ⟨j + 1, by omega, by go_num, HN.out, by trivial⟩
        case measure => simp [intOf]; omega
    · have HI := Lib.hid (ix_no (l := l) (s := s) (by
        intro t ht
        refine H0.out t ?_
        rw [List.take_of_length_le (by rw [HL.out]; omega)]
        exact ht))
      go_wp2_with fail
      go_ret
      exact ⟨by rw [HI.out]; rfl, by trivial⟩

/-- The operation with a name; 0: none. -/
def opS (s : ByteArray) : Int := ixS (nmL.drop 1) s + 1
def opE (s : ByteArray) : Int := if ixS (nmL.drop 1) s < 0 then 6 else 0
def opV (s : ByteArray) : Int := if ixS (nmL.drop 1) s < 0 then 0 else opS s
theorem ix_cases (l : List ByteArray) (s : ByteArray) : ixS l s = -1 ∨ ∃ i : Nat, ixS l s = i ∧ l[i]? = some s := by
  unfold ixS
  cases h : l.findIdx? (fun t => decide (s = t)) with
  | none => exact .inl rfl
  | some i =>
    rw [List.findIdx?_eq_some_iff_getElem] at h
    obtain ⟨h1, h2, _⟩ := h
    refine .inr ⟨i, rfl, ?_⟩
    rw [List.getElem?_eq_getElem h1, show l[i] = s from by simpa using (of_decide_eq_true h2).symm]

set_option maxRecDepth 100000 in
set_option maxHeartbeats 1600000 in
theorem op6_any (s : ByteArray) (w : World) :
    Calls Try.prog 14 #[.string s] w fun e w' => e = .returned (.tuple #[.int .u8 (opV s), .int .i64 (opE s)]) ∧ Below w.heap.size w w' := by
  have KS : ∀ (W : World) (g : Nat), (Instr.sliceAt 61 (.pointer (some ⟨g, 0, none⟩)) (some (.int .i64 1)) none none).run Try.prog W = .ok (.slice (some ⟨g, 1, none⟩) 34 34) W := fun W g => by
    have hl : Try.prog.arrayLen 61 = 35 := by kernel_rfl
    rw [run_sliceAt_array_l W 61 ⟨g, 0, none⟩ (by rw [hl]; exact (by rw [show Try.prog.elem 61 = 9 from by kernel_rfl]; exact Try.underlying61)) .i64 1 (by omega) (by rw [hl]; omega), hl]
    rw [show (sizeOf (Try.prog.elem 61)).run Try.prog W = .ok 1 W from by kernel_rfl]
    rfl
  go_enter Try.func14, Try.ntmps14
  go_wp2_with fail
  refine (names_any _).mono ?_
  rintro e w1 ⟨rfl, b1⟩
  have hz := (zero_of_info nm_zero).1
  have hB := b1.alloc b1.size (.cells nmA 61)
  go_wp2_with (first | (with_reducible refine wpList_alloc_big rfl 61 rfl nmZ hz ?_) | refine wpList_store_new rfl 61 (.tmp 4) (.tmp 6) rfl w1 rfl _ nmA rfl nm_size (by rfl) nm_one ?_)
  have RL : Reads (w1.alloc (.cells nmA 61)) (w1.alloc (.cells nmA 61)).heap.size 1 (some ⟨w1.heap.size, 1, none⟩) 34 ((nmL.drop 1).map Value.string) := by
    refine ⟨rfl, fun _ => ⟨_, rfl, by simp, fun j u hu => ?_⟩⟩
    have hadd : (⟨w1.heap.size, 1, none⟩ : Addr).add j = ⟨w1.heap.size, 1 + j, none⟩ := by unfold Addr.add; split <;> simp_all
    rw [hadd, (Blk.new w1 61 nmA).cell (1 + j)]
    rw [nmA_eq]
    rw [List.getElem?_toArray, ← hu, List.getElem?_map, List.getElem?_map, List.getElem?_drop]
  refine (index6_any _ 34 34 _ s _ RL (by omega)).mono ?_
  rintro e w2 ⟨rfl, rfl⟩
  clear RL KS
  rcases ix_cases (nmL.drop 1) s with h | ⟨i, h, hi⟩
  · have HV := Lib.hid (show opV s = 0 ∧ opE s = 6 from ⟨by rw [opV, if_pos (by omega)], by rw [opE, if_pos (by omega)]⟩)
    rw [h]
    clear h
    go_wp2_with fail
    go_ret2
    exact ⟨by rw [HV.out.1, HV.out.2]; rfl, hB⟩
  · have hi34 : i < 34 := (List.getElem?_eq_some_iff.1 hi).1
    have HV := Lib.hid (show opV s = (i : Int) + 1 ∧ opE s = 0 from ⟨by rw [opV, if_neg (by omega), opS, h], by rw [opE, if_neg (by omega)]⟩)
    rw [h]
    clear h hi
    have wu : IntKind.u8.wrap ((i : Int) + 1) = (i : Int) + 1 := by rw [IntKind.wrap_u8]; omega
    go_wp2_with fail
    go_ret2
    exact ⟨by rw [HV.out.1, HV.out.2]; rfl, hB⟩

end Go.Proofs.Ytkhdeoihjnpnaaa
