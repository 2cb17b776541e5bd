/- What the walk of CrcNames leans on. Each states its conditions. -/
import Derived.Test.YtldaijkcmnnjpaaCrcNm
import Derived.BigQuiet
namespace Go.Proofs.Ytldaijkcmnnjpaa
open Go.RowKit Crc
set_option linter.unusedVariables false

/-- What the operations of a region yield, by their place in a list. -/
def prL (l : List (Value → World → Prop)) (i : Nat) : Value → World → Prop := l.getD i (fun _ _ => True)
def Mono (p : Value → World → Prop) : Prop := ∀ v w w', Below w.heap.size w w' → p v w → p v w'
theorem prL_mv {l : List (Value → World → Prop)} (h : ∀ p ∈ l, Mono p) (i : Nat) (v : Value) (w w' : World) (b : Below w.heap.size w w') (hp : prL l i v w) : prL l i v w' := by
  unfold prL at hp ⊢
  rw [List.getD_eq_getElem?_getD] at hp ⊢
  cases hx : l[i]? with
  | none => trivial
  | some p =>
    rw [hx] at hp
    exact h p (List.mem_of_getElem? hx) v w w' b hp
def mV (c : Value) (v : Value) (w : World) : Prop := v = c
def mBB (n : Nat) (LL : List (List UInt8)) (v : Value) (w : World) : Prop := ∃ g, v = .slice (some ⟨g, 0, none⟩) n n ∧ Rbb w (some ⟨g, 0, none⟩) n LL
theorem mV_mono (c : Value) : Mono (mV c) := fun v w w' b h => h
theorem mBB_mono (n : Nat) (LL : List (List UInt8)) : Mono (mBB n LL) := fun v w w' b h => by obtain ⟨g, e, h⟩ := h; exact ⟨g, e, h.mv b⟩
theorem sl8c : IsSl Try.prog 25 5 (.int .u8 0) 1 1 := ⟨Try.underlying25, by kernel_rfl, rfl, by omega, by omega⟩
theorem slBB : IsSl Try.prog 32 25 (.slice none 0 0) 1 24 := ⟨Try.underlying32, by kernel_rfl, rfl, by omega, by omega⟩
def zr (n : Nat) : List UInt8 := List.replicate n 0
theorem zr_len (n : Nat) : (zr n).length = n := List.length_replicate
theorem rb_zeros {w w' : World} {n : Nat} {A : Option Addr} (h : w'.ownsRow w.heap.size 5 1 (.slice A n n) n (List.replicate n (.int .u8 0))) : Rb w' A n (zr n) := by
  rw [rep_b8] at h
  exact own_rd h
theorem rb_pre {w : World} {n v g : Nat} (h : Rb w (some ⟨g, 0, none⟩) n (zr n)) (hv : v ≤ n) : Rb w (some ⟨g, 0, none⟩) v (zr v) := by
  refine ⟨by simp [zr], fun hp => ?_⟩
  obtain ⟨ad, ha, hb, hc⟩ := h.2 (by omega)
  refine ⟨ad, ha, hb, fun j u hu => hc j u ?_⟩
  rw [List.getElem?_map] at hu ⊢
  have hj : j < v := by
    rcases Nat.lt_or_ge j v with hlt | hge
    · exact hlt
    · rw [List.getElem?_eq_none (by rw [zr_len]; exact hge)] at hu; cases hu
  unfold zr at hu ⊢
  rw [List.getElem?_replicate, if_pos hj] at hu
  rw [List.getElem?_replicate, if_pos (by omega)]
  exact hu
theorem rbb_zeros {w w' : World} {n : Nat} {A : Option Addr} (h : w'.ownsRow w.heap.size 25 1 (.slice A n n) n (List.replicate n (.slice none 0 0))) : Rbb w' A n (List.replicate n []) := by
  refine ⟨by simp, _, own_reads h, fun k li hk => ?_⟩
  rw [List.getElem?_replicate] at hk ⊢
  split at hk
  · injection hk with hk
    subst hk
    rename_i hlt
    rw [if_pos hlt]
    exact ⟨none, 0, rfl, by simp, Reads.none_⟩
  · cases hk
theorem rbb_two {w : World} {g a b c : Nat} (ha : Rb w (some ⟨g, 0, none⟩) a (zr a)) (hb : Rb w (some ⟨g, 0, none⟩) b (zr b)) (hac : a ≤ c ∧ b ≤ c ∧ c ≤ 1000000) :
    Rbb (w.alloc (.cells #[.slice (some ⟨g, 0, none⟩) a c, .slice (some ⟨g, 0, none⟩) b c] 25)) (some ⟨w.heap.size, 0, none⟩) 2 [zr a, zr b] := by
  have bl := (Below.refl w.heap.size w).alloc (Nat.le_refl _) (.cells #[.slice (some ⟨g, 0, none⟩) a c, .slice (some ⟨g, 0, none⟩) b c] 25)
  refine ⟨rfl, [.slice (some ⟨g, 0, none⟩) a c, .slice (some ⟨g, 0, none⟩) b c], reads_newT w 25 _ 1 2 rfl, fun k li hk => ?_⟩
  rcases k with _ | _ | k
  · simp at hk
    subst hk
    exact ⟨some ⟨g, 0, none⟩, c, by simp [zr_len], by rw [zr_len]; omega, by rw [zr_len]; exact Reads.mv ha bl⟩
  · simp at hk
    subst hk
    exact ⟨some ⟨g, 0, none⟩, c, by simp [zr_len], by rw [zr_len]; omega, by rw [zr_len]; exact Reads.mv hb bl⟩
  · simp at hk
theorem slice_h0 (g n c v : Nat) (hc : v ≤ c) (h0 : 0 < c) (W : World) : (Instr.slice 25 (.slice (some ⟨g, 0, none⟩) n c) none (some (.int .i64 (v : Int))) none).run Try.prog W = .ok (.slice (some ⟨g, 0, none⟩) v c) W := by
  have hs : ∀ w, (sizeOf 5).run Try.prog w = .ok 1 w := fun _ => by kernel_rfl
  have ht' : Try.prog.underlying 25 = some (.slice (Try.prog.elem 25)) := by rw [elem_of Try.underlying25]; exact Try.underlying25
  rw [run_slice_h W 25 (some ⟨g, 0, none⟩) n c ht' .i64 (v : Int) (by omega) (by omega), elem_of Try.underlying25, hs]
  simp only [Result.andThen, sliced, Nat.mul_one]
  rw [if_neg (by omega)]
  have hadd : (⟨g, 0, none⟩ : Addr).add 0 = ⟨g, 0, none⟩ := by unfold Addr.add; split <;> simp_all
  simp [hadd]
def XW : Nat := nxt 0 (zr 200000)
theorem pc_65 : pcsV (List.replicate 65 []) = 0 ∧ pcsE (List.replicate 65 []) = 4 := by
  constructor
  · unfold pcsV; rw [if_neg (by rw [List.length_replicate]; omega)]
  · unfold pcsE; rw [if_neg (by rw [List.length_replicate]; omega)]
theorem pc_64 : pcsV (List.replicate 64 []) = 0 ∧ pcsE (List.replicate 64 []) = 0 := by decide +kernel
theorem pc_two (a b : Nat) : [zr a, zr b].flatten = zr (a + b) := by simp [zr]
theorem pc_big : pcsV [zr 100000, zr 100001] = 0 ∧ pcsE [zr 100000, zr 100001] = 4 := by
  have h : ¬ ([zr 100000, zr 100001].length ≤ 64 ∧ [zr 100000, zr 100001].flatten.length ≤ 200000) := by rw [pc_two, zr_len]; omega
  exact ⟨by unfold pcsV; rw [if_neg h], by unfold pcsE; rw [if_neg h]⟩
theorem pc_most : pcsV [zr 100000, zr 100000] = XW ∧ pcsE [zr 100000, zr 100000] = 0 := by
  have h : [zr 100000, zr 100000].length ≤ 64 ∧ [zr 100000, zr 100000].flatten.length ≤ 200000 := by rw [pc_two, zr_len]; exact ⟨by decide, by omega⟩
  exact ⟨by unfold pcsV; rw [if_pos h, pc_two]; rfl, by unfold pcsE; rw [if_pos h]⟩
theorem pieces_is {A : Option Addr} {n : Nat} {LL : List (List UInt8)} (w : World) (hr : Rbb w A n LL) (hn : n ≤ 1000000) {v : Nat} {er : Int} (h : pcsV LL = v ∧ pcsE LL = er) :
    Calls Try.prog 12 #[.agg (arr .u32 256 el), .slice A n n] w fun e w' => e = .returned (.tuple #[.int .u32 (v : Int), .int .i64 er]) ∧ Below w.heap.size w w' := by
  have := pieces_any A n n LL w hr (by omega)
  rw [h.1, h.2] at this
  exact this
theorem sum_long {A : Option Addr} {c : Nat} (w : World) (hr : Rb w A 200001 (zr 200001)) : Calls Try.prog 9 #[.agg (arr .u32 256 el), .slice A 200001 c] w fun e w' => e = .returned (.tuple #[.int .u32 0, .int .i64 4]) ∧ Below w.heap.size w w' := by
  have h := sum_all el true (eqn_refl _ _) A 200001 c (zr 200001) w hr (by omega)
  rw [show nxtV true 200001 0 (zr 200001) = 0 from by simp [nxtV], show nxtE true 200001 = 4 from by simp [nxtE]] at h
  exact h
theorem next_long {A : Option Addr} {c : Nat} (w : World) (hr : Rb w A 200001 (zr 200001)) : Calls Try.prog 10 #[.agg (arr .u32 256 el), .int .u32 5, .slice A 200001 c] w fun e w' => e = .returned (.tuple #[.int .u32 0, .int .i64 4]) ∧ Below w.heap.size w w' := by
  have h := next_all el true (eqn_refl _ _) 5 (by omega) A 200001 c (zr 200001) w hr (by omega)
  rw [show nxtV true 200001 5 (zr 200001) = 0 from by simp [nxtV], show nxtE true 200001 = 4 from by simp [nxtE]] at h
  exact h
theorem sum_whole {A : Option Addr} {c : Nat} (w : World) (hr : Rb w A 200000 (zr 200000)) : Calls Try.prog 9 #[.agg (arr .u32 256 el), .slice A 200000 c] w fun e w' => e = .returned (.tuple #[.int .u32 (XW : Int), .int .i64 0]) ∧ Below w.heap.size w w' := by
  have h := sum_all el true (eqn_refl _ _) A 200000 c (zr 200000) w hr (by omega)
  rw [show nxtV true 200000 0 (zr 200000) = XW from by simp [nxtV, XW], show nxtE true 200000 = 0 from by simp [nxtE]] at h
  exact h
theorem sum_zero {A : Option Addr} (w : World) (hr : Rb w A 1 [0]) : Calls Try.prog 9 #[.agg (arr .u32 256 el), .slice A 1 1] w fun e w' => e = .returned (.tuple #[.int .u32 3523407757, .int .i64 0]) ∧ Below w.heap.size w w' := by
  have h := sum_all el true (eqn_refl _ _) A 1 1 [0] w hr (by omega)
  rw [show nxtV true 1 0 [0] = 3523407757 from by decide +kernel, show nxtE true 1 = 0 from by decide] at h
  exact h
theorem eq_zero : eqn 256 (fun _ => 0) el = false := by decide +kernel
theorem eq_255 : eqn 256 (chg 255 1) el = false := by decide +kernel
theorem eq_0 : eqn 256 (chg 0 1) el = false := by decide +kernel
theorem eq_7 : eqn 256 (chg 7 2147483648) el = false := by decide +kernel
theorem sum_bad {A : Option Addr} {n c : Nat} {l : List UInt8} (w : World) (hr : Rb w A n l) (hn : n ≤ 1000000) : Calls Try.prog 9 #[.agg (arr .u32 256 fun _ => 0), .slice A n c] w fun e w' => e = .returned (.tuple #[.int .u32 0, .int .i64 8]) ∧ Below w.heap.size w w' := by
  have h := sum_all (fun _ => 0) false eq_zero A n c l w hr (by omega)
  rw [show nxtV false n 0 l = 0 from by simp [nxtV], show nxtE false n = 8 from by simp [nxtE]] at h
  exact h
theorem patch_is (v1 v2 : Value) (w : World) : Calls Try.prog 14 #[.agg (arr .u32 256 fun _ => 0), v1, v2] w fun e w' => e = .returned (.tuple #[.agg #[.int .u8 0, .int .u8 0, .int .u8 0, .int .u8 0], .int .i64 8]) ∧ Below w.heap.size w w' := patch_bad (fun _ => 0) eq_zero v1 v2 w
theorem tab_built : Try.prog.built 23 [] = some (arr .u32 256 fun _ => 0) := by kernel_rfl
theorem wpList_bldz {ops : Array Oper} {rest : List Oper} {o : Oper} {a : Act} {w : World} {Q : Exit → Act → World → Prop} (hg : o.guard = none) (ho : o.op = .build 23 #[])
    (h : wpList Try.prog ops Q rest (a.put o.dst (.agg (arr .u32 256 fun _ => 0))) w) : wpList Try.prog ops Q (o :: rest) a w :=
  wpList_plain hg fun _ hK => wp_bld 23 #[] ho [] (by simp) _ tab_built (hK _ _ h)

end Go.Proofs.Ytldaijkcmnnjpaa
