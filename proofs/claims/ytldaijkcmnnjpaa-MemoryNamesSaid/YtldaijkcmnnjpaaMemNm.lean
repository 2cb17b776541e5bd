/- What MemoryNames leans on. Each states its conditions. -/
import Derived.Test.YtldaijkcmnnjpaaMem26
import Derived.Test.YtldaijkcmnnjpaaMem11
import Derived.Test.YtldaijkcmnnjpaaMem15
import Derived.Test.YtldaijkcmnnjpaaMem23
import Derived.Test.YtldaijkcmnnjpaaMem4
import Derived.Test.YtldaijkcmnnjpaaTb4
import Derived.Test.YtldaijkcmnnjpaaWk
import Derived.BigQuiet
namespace Go.Proofs.Ytldaijkcmnnjpaa
open Go.RowKit Wire
set_option linter.unusedVariables false

set_option maxRecDepth 100000 in
set_option maxHeartbeats 1600000 in
theorem two_at (w : World) :
    Calls Try.prog 32 #[] w fun e w' => ∃ g g', e = .returned (.tuple #[rgn 65536 none 0 0, .slice (some ⟨g, 0, none⟩) 2 2]) ∧ RdR w' (some ⟨g, 0, none⟩) 2 twL ∧ Blk w' g 75 #[.int .u64 16777216, .slice none 0 0, .int .u64 33554432, .slice (some ⟨g', 0, none⟩) 8 8] ∧ Below w.heap.size w w' := by
  have hB : Below w.heap.size w (((w.alloc (.cells #[.int .u64 65536, .slice none 0 0] 75)).alloc (.cells #[.int .u8 1, .int .u8 2, .int .u8 3, .int .u8 4, .int .u8 5, .int .u8 6, .int .u8 7, .int .u8 8] 5)).alloc (.cells #[.int .u64 16777216, .slice none 0 0, .int .u64 33554432, .slice (some ⟨w.heap.size + 1, 0, none⟩) 8 8] 75)) := (Below.alloc (Below.alloc (Below.alloc (Below.refl w.heap.size w) (by simp <;> omega) (.cells #[.int .u64 65536, .slice none 0 0] 75)) (by simp <;> omega) (.cells #[.int .u8 1, .int .u8 2, .int .u8 3, .int .u8 4, .int .u8 5, .int .u8 6, .int .u8 7, .int .u8 8] 5)) (by simp <;> omega) (.cells #[.int .u64 16777216, .slice none 0 0, .int .u64 33554432, .slice (some ⟨w.heap.size + 1, 0, none⟩) 8 8] 75))
  have hr := Blk.new w 75 #[.int .u64 65536, .slice none 0 0]
  replace hr := hr.alloc (.cells #[.int .u8 1, .int .u8 2, .int .u8 3, .int .u8 4, .int .u8 5, .int .u8 6, .int .u8 7, .int .u8 8] 5)
  replace hr := hr.alloc (.cells #[.int .u64 16777216, .slice none 0 0, .int .u64 33554432, .slice (some ⟨w.heap.size + 1, 0, none⟩) 8 8] 75)
  have h8 := Blk.new (w.alloc (.cells #[.int .u64 65536, .slice none 0 0] 75)) 5 #[.int .u8 1, .int .u8 2, .int .u8 3, .int .u8 4, .int .u8 5, .int .u8 6, .int .u8 7, .int .u8 8]
  rw [show (w.alloc (.cells #[.int .u64 65536, .slice none 0 0] 75)).heap.size = w.heap.size + 1 from by simp] at h8
  replace h8 := h8.alloc (.cells #[.int .u64 16777216, .slice none 0 0, .int .u64 33554432, .slice (some ⟨w.heap.size + 1, 0, none⟩) 8 8] 75)
  have h4 := Blk.new ((w.alloc (.cells #[.int .u64 65536, .slice none 0 0] 75)).alloc (.cells #[.int .u8 1, .int .u8 2, .int .u8 3, .int .u8 4, .int .u8 5, .int .u8 6, .int .u8 7, .int .u8 8] 5)) 75 #[.int .u64 16777216, .slice none 0 0, .int .u64 33554432, .slice (some ⟨w.heap.size + 1, 0, none⟩) 8 8]
  rw [show ((w.alloc (.cells #[.int .u64 65536, .slice none 0 0] 75)).alloc (.cells #[.int .u8 1, .int .u8 2, .int .u8 3, .int .u8 4, .int .u8 5, .int .u8 6, .int .u8 7, .int .u8 8] 5)).heap.size = w.heap.size + 2 from by simp] at h4
  go_enter Try.func32, Try.ntmps32
  go_wp2_with fail
  refine ret_c1 rfl regT2 rfl (by repeat (first | with_reducible exact hr | with_reducible (apply Blk.set_) | with_reducible (apply Blk.far; case hp => (simp <;> omega)) | with_reducible (apply Blk.alloc) | with_reducible (apply Blk.drew))) (by rfl) ?_
  have g4 := h4
  have g8 := h8
  refine ⟨_, _, rfl, ⟨rfl, [[.int .u64 16777216, .slice none 0 0], [.int .u64 33554432, .slice (some ⟨w.heap.size + 1, 0, none⟩) 8 8]], rfl, by simp, reads_blk g4 2 2 rfl, fun k p hp => ?_⟩, g4, (by have hs_ := hB.size; repeat (first | with_reducible exact hB | with_reducible (refine Below.setCell ?_ (by simp <;> omega) _) | with_reducible (refine Below.alloc ?_ (by first | exact hs_ | (simp <;> omega)) _) | with_reducible (refine Below.drew ?_)))⟩
  rcases k with _ | _ | k
  · simp [twL] at hp
    subst hp
    exact ⟨none, 0, rfl, by simp, rb_nil _ _, by simp⟩
  · simp [twL] at hp
    subst hp
    exact ⟨some ⟨w.heap.size + 1, 0, none⟩, 8, rfl, by simp, reads_blk g8 1 8 rfl, by simp⟩
  · simp [twL] at hp
theorem bad_wh {b n c : Nat} {A : Option Addr} {l : List UInt8} (w : World) (hr : Rb w A n l) (hb : hpB b l.length = false) :
    Calls Try.prog 33 #[rgn b A n c] w fun e w' => (∃ A c, e = .returned (.tuple #[.slice A 0 c, .int .i64 8])) ∧ Below w.heap.size w w' := by
  have h := writeHeap_any b A n c l w hr
  rw [show whL b l = [] from by unfold whL; rw [hb]; rfl, show whE b l = 8 from by unfold whE; rw [hb]; rfl] at h
  refine h.mono ?_
  rintro e w' ⟨A, c, rfl, _, b⟩
  exact ⟨⟨A, c, rfl⟩, b⟩
theorem bad_ws {n c : Nat} {A : Option Addr} {L : List (Nat × List UInt8)} (w : World) (hr : RdR w A n L) (hn : n ≤ 1000000) (hb : stB L = false) :
    Calls Try.prog 36 #[.slice A n c] w fun e w' => (∃ A c, e = .returned (.tuple #[.slice A 0 c, .int .i64 8])) ∧ Below w.heap.size w w' := by
  have h := writeStacks_any A n c L w hr hn
  rw [show whS L = [] from by unfold whS; rw [hb]; rfl, show whSE L = 8 from by unfold whSE; rw [hb]; rfl] at h
  refine h.mono ?_
  rintro e w' ⟨A, c, rfl, _, b⟩
  exact ⟨⟨A, c, rfl⟩, b⟩
theorem word_is {b n0 c0 m c : Nat} {A0 A : Option Addr} {l0 : List UInt8} {L : List (Nat × List UInt8)} (w : World) (hr0 : Rb w A0 n0 l0) (hc0 : n0 ≤ c0 ∧ c0 ≤ 9223372036854775807) (hb : b < 18446744073709551616) (hr : RdR w A m L) (hm : m ≤ 1000000) (a : Nat) (ha : a < 18446744073709551616) (v : Nat) (er : Int) (h1 : woN b l0 L a = v) (h2 : woE b l0 L a = er) :
    Calls Try.prog 34 #[rgn b A0 n0 c0, .slice A m c, .int .u64 (a : Int)] w fun e w' => e = .returned (.tuple #[.int .u64 (v : Int), .int .i64 er]) ∧ Below w.heap.size w w' := by
  have h := word_any b A0 n0 c0 l0 A m c L a w hr0 hc0 hb hr hm ha
  rw [h1, h2] at h
  exact h
theorem bytes_is {b n0 c0 m c : Nat} {A0 A : Option Addr} {l0 : List UInt8} {L : List (Nat × List UInt8)} (w : World) (hr0 : Rb w A0 n0 l0) (hc0 : n0 ≤ c0 ∧ c0 ≤ 9223372036854775807) (hb : b < 18446744073709551616) (hr : RdR w A m L) (hm : m ≤ 1000000) (a : Nat) (ha : a < 18446744073709551616) (n : Int) (l : List UInt8) (er : Int) (h1 : byL b l0 L a n = l) (h2 : byE b l0 L a n = er) :
    Calls Try.prog 35 #[rgn b A0 n0 c0, .slice A m c, .int .u64 (a : Int), .int .i64 n] w fun e w' => ∃ A' c', e = .returned (.tuple #[.slice A' l.length c', .int .i64 er]) ∧ Rb w' A' l.length l ∧ Below w.heap.size w w' := by
  have h := bytes_any b A0 n0 c0 l0 A m c L a n w hr0 hc0 hb hr hm ha
  unfold ByP at h
  rw [h1, h2] at h
  refine h.mono ?_
  rintro e w' ⟨A', c', rfl, o1, b1⟩
  exact ⟨A', c', rfl, own_rd o1, b1⟩
theorem no_word {b : Nat} {l0 : List UInt8} {L : List (Nat × List UInt8)} (h : (hpB b l0.length && stB L) = false) (a : Nat) : woN b l0 L a = 0 ∧ woE b l0 L a = 8 := by
  have e : byE b l0 L a 8 = 8 := by unfold byE; rw [h]; rfl
  have e2 : woE b l0 L a = 8 := by unfold woE; rw [e]; rfl
  exact ⟨by unfold woN; rw [e2]; rfl, e2⟩
theorem no_bytes {b : Nat} {l0 : List UInt8} {L : List (Nat × List UInt8)} (h : (hpB b l0.length && stB L) = false) (a : Nat) (n : Int) : byL b l0 L a n = [] ∧ byE b l0 L a n = 8 := by
  have e : byE b l0 L a n = 8 := by unfold byE; rw [h]; rfl
  exact ⟨by unfold byL; rw [e]; rfl, e⟩
def formM : List (List UInt8) := [[], [4, 1, 2, 3, 4], [8, 1, 2, 3, 4, 5, 6, 7], [0, 0], [128, 0], [128]]
theorem formM_all : formM.all (fun l => (rhB l == false) && ((rsB (1 :: l) == false) && decide (l.length ≤ 100))) = true := by decide +kernel
theorem formM_get {l : List UInt8} (h : l ∈ formM) : rhB l = false ∧ rsB (1 :: l) = false ∧ l.length ≤ 100 := by
  have h1 := List.all_eq_true.1 formM_all l h
  simp only [Bool.and_eq_true, decide_eq_true_eq, beq_iff_eq] at h1
  exact ⟨h1.1, h1.2.1, h1.2.2⟩
theorem bad_rH {n c : Nat} {A : Option Addr} {l : List UInt8} (w : World) (hr : Rb w A n l) (hl : l.length ≤ 200000) (hb : rhB l = false) :
    Calls Try.prog 37 #[.slice A n c] w fun e w' => (∃ A c, e = .returned (.tuple #[rgn 0 A 0 c, .int .i64 12])) ∧ Below w.heap.size w w' := by
  have h := readHeap_any A n c l w hr hl
  unfold RhP at h
  rw [(rh_no hb).1, (rh_no hb).2.1, (rh_no hb).2.2] at h
  refine h.mono ?_
  rintro e w' ⟨A, c, rfl, _, _, b⟩
  exact ⟨⟨A, c, rfl⟩, b⟩
theorem bad_rS {n c : Nat} {A : Option Addr} {l : List UInt8} (w : World) (hr : Rb w A n l) (hl : l.length ≤ 200000) (hb : rsB l = false) :
    Calls Try.prog 38 #[.slice A n c] w fun e w' => (∃ A c, e = .returned (.tuple #[.slice A 0 c, .int .i64 12])) ∧ Below w.heap.size w w' := by
  have h := readStacks_any A n c l w hr hl
  unfold RsP at h
  rw [(rsb_no hb).1, (rsb_no hb).2] at h
  refine h.mono ?_
  rintro e w' ⟨A, c, rfl, _, b⟩
  exact ⟨⟨A, c, rfl⟩, b⟩

theorem flS_len {α : Type} (f : α → List Value) (sz : Nat) (hf : ∀ a, (f a).length = sz) : ∀ L : List α, (L.map f).flatten.length = L.length * sz
  | [] => by simp
  | x :: L => by
    have := flS_len f sz hf L
    simp only [List.map_cons, List.flatten_cons, List.length_append, List.length_cons, hf, this]
    rw [Nat.add_mul, Nat.one_mul, Nat.add_comm]
/-- A region in a literal: its base, its bytes. -/
abbrev Rgl := Nat × Option Addr × Nat × List UInt8
def rglC (p : Rgl) : List Value := [.int .u64 (p.1 : Int), .slice p.2.1 p.2.2.1 p.2.2.1]
def RglOk (u : World) (p : Rgl) : Prop := Rb u p.2.1 p.2.2.1 p.2.2.2 ∧ p.2.2.1 ≤ 1000000 ∧ p.1 < 18446744073709551616
theorem rdR_row (u : World) (L : List Rgl) (h : ∀ p ∈ L, RglOk u p) {cs : Array Value} (hc : cs = (L.map rglC).flatten.toArray) :
    RdR (u.alloc (.cells cs 75)) (some ⟨u.heap.size, 0, none⟩) L.length (L.map fun p => (p.1, p.2.2.2)) := by
  subst hc
  refine ⟨by simp, L.map rglC, by simp, fun x hx => ?_, reads_newT u 75 _ 2 _ (flS_len rglC 2 (fun _ => rfl) L), fun k p hp => ?_⟩
  · obtain ⟨y, _, rfl⟩ := List.mem_map.1 hx
    rfl
  · rw [List.getElem?_map] at hp ⊢
    cases hx : L[k]? with
    | none => rw [hx] at hp; cases hp
    | some q =>
      rw [hx] at hp
      simp at hp
      subst hp
      obtain ⟨h1, h2, h3⟩ := h q (List.mem_of_getElem? hx)
      have hl := h1.len8
      refine ⟨q.2.1, q.2.2.1, by simp [rglC, hl], ⟨by rw [hl]; exact Nat.le_refl _, by omega⟩, ?_, h3⟩
      rw [hl]
      exact h1.mv ((Below.refl _ _).alloc (Nat.le_refl _) _)
theorem rdR_zeros {u u' : World} {n : Nat} {A : Option Addr} {xs : List Value} (h : u'.ownsRow u.heap.size 75 2 (.slice A n n) n xs) (hx : xs = (List.replicate n [Value.int .u64 0, .slice none 0 0]).flatten) : RdR u' A n (List.replicate n (0, [])) := by
  subst hx
  refine ⟨by simp, List.replicate n [Value.int .u64 0, .slice none 0 0], by simp, fun x hx => ?_, own_reads h, fun k p hp => ?_⟩
  · rw [List.eq_of_mem_replicate hx]; rfl
  · rw [List.getElem?_replicate] at hp ⊢
    split at hp
    · injection hp with hp
      subst hp
      rename_i hlt
      rw [if_pos hlt]
      exact ⟨none, 0, rfl, by simp, Reads.none_, by simp⟩
    · cases hp
/-- The table of heaps that are none, and that of stacks that are none. -/
def THp (w : World) (g : Nat) : Prop := ∀ j, j < 4 → ∃ b A n l, w.cell? ⟨g, j * 2, none⟩ = some (.int .u64 ((b : Nat) : Int)) ∧ w.cell? ⟨g, j * 2 + 1, none⟩ = some (.slice A n n) ∧ g < w.heap.size ∧ n ≤ 1000000 ∧ Rb w A n l ∧ b < 18446744073709551616 ∧ hpB b l.length = false
theorem THp.mv {w w' : World} {g : Nat} (h : THp w g) (b : Below w.heap.size w w') : THp w' g := fun j hj => by
  obtain ⟨z, A, n, l, h1, h2, h3, h4, h5, h6, h7⟩ := h j hj
  exact ⟨z, A, n, l, (b.cell (p := ⟨g, j * 2, none⟩) h3).trans h1, (b.cell (p := ⟨g, j * 2 + 1, none⟩) h3).trans h2, Nat.lt_of_lt_of_le h3 b.size, h4, h5.mv b, h6, h7⟩
def TSk (w : World) (g : Nat) : Prop := ∀ j, j < 6 → ∃ A n L, w.cell? ⟨g, j, none⟩ = some (.slice A n n) ∧ g < w.heap.size ∧ n ≤ 1000000 ∧ RdR w A n L ∧ stB L = false
theorem TSk.mv {w w' : World} {g : Nat} (h : TSk w g) (b : Below w.heap.size w w') : TSk w' g := fun j hj => by
  obtain ⟨A, n, L, h1, h2, h3, h4, h5⟩ := h j hj
  exact ⟨A, n, L, (b.cell (p := ⟨g, j, none⟩) h2).trans h1, Nat.lt_of_lt_of_le h2 b.size, h3, h4.mv b, h5⟩
def zr (n : Nat) : List UInt8 := List.replicate n 0
theorem zr_len (n : Nat) : (zr n).length = n := List.length_replicate
theorem rb_zeros {w w' : World} {n : Nat} {A : Option Addr} (h : w'.ownsRow w.heap.size 5 1 (.slice A n n) n (List.replicate n (.int .u8 0))) : Rb w' A n (zr n) := by
  rw [rep_b8] at h
  exact own_rd h
def mB (n : Nat) (v : Value) (w : World) : Prop := ∃ g, v = .slice (some ⟨g, 0, none⟩) n n ∧ Rb w (some ⟨g, 0, none⟩) n (zr n)
def mG (b n : Nat) (v : Value) (w : World) : Prop := ∃ g, v = rgn b (some ⟨g, 0, none⟩) n n ∧ Rb w (some ⟨g, 0, none⟩) n (zr n)
def mV (c : Value) (v : Value) (w : World) : Prop := v = c
def mR (n : Nat) (L : List (Nat × List UInt8)) (v : Value) (w : World) : Prop := ∃ g, v = .slice (some ⟨g, 0, none⟩) n n ∧ RdR w (some ⟨g, 0, none⟩) n L
def mH (v : Value) (w : World) : Prop := ∃ g, v = .slice (some ⟨g, 0, none⟩) 4 4 ∧ THp w g
def mS (v : Value) (w : World) : Prop := ∃ g, v = .slice (some ⟨g, 0, none⟩) 6 6 ∧ TSk w g
theorem mV_mv {c v : Value} {w w' : World} (hb : Below w.heap.size w w') (h : mV c v w) : mV c v w' := h
section
variable {n b : Nat} {L : List (Nat × List UInt8)} {v : Value} {w w' : World} (hb : Below w.heap.size w w')
include hb
theorem mB_mv (h : mB n v w) : mB n v w' := by obtain ⟨g, e, h⟩ := h; exact ⟨g, e, h.mv hb⟩
theorem mG_mv (h : mG b n v w) : mG b n v w' := by obtain ⟨g, e, h⟩ := h; exact ⟨g, e, h.mv hb⟩
theorem mR_mv (h : mR n L v w) : mR n L v w' := by obtain ⟨g, e, h⟩ := h; exact ⟨g, e, h.mv hb⟩
theorem mH_mv (h : mH v w) : mH v w' := by obtain ⟨g, e, h⟩ := h; exact ⟨g, e, h.mv hb⟩
theorem mS_mv (h : mS v w) : mS v w' := by obtain ⟨g, e, h⟩ := h; exact ⟨g, e, h.mv hb⟩
end
def pr2 : Nat → Value → World → Prop
  | 0 => mV (rgn 0 none 0 0)
  | 1 => mV (rgn 65544 none 0 0)
  | 2 => mB 4
  | 3 => mG 65536 4
  | 4 => mB 16392
  | 5 => mG 65536 16392
  | 6 => mH
  | 7 => mH
  | _ => fun _ _ => True
theorem pr2_mv (i : Nat) (v : Value) (w w' : World) (b : Below w.heap.size w w') (h : pr2 i v w) : pr2 i v w' := by
  rcases i with _ | _ | _ | _ | _ | _ | _ | _ | i
  all_goals first | exact mV_mv b h | exact mB_mv b h | exact mG_mv b h | exact mH_mv b h | exact trivial
def pr11 (g : Nat) : Nat → Value → World → Prop
  | 0 => mR 17 (List.replicate 17 (0, []))
  | 1 => mV (rgn 33554432 none 0 0)
  | 2 => mR 1 [(33554432, [])]
  | 3 => mV (.slice (some ⟨g, 0, none⟩) 2 2)
  | 4 => mV (.pointer (some ⟨g, 0, none⟩))
  | 5 => mV (rgn 16777216 none 0 0)
  | 6 => mV (.slice (some ⟨g, 0, none⟩) 2 2)
  | 7 => mV (.pointer (some ⟨g, 0, none⟩))
  | 8 => mV (rgn 16777216 none 0 0)
  | 9 => mR 2 [(16777216, []), (16777216, [])]
  | 10 => mB 12
  | 11 => mG 16777216 12
  | 12 => mR 1 [(16777216, zr 12)]
  | 13 => mB 4104
  | 14 => mG 16777216 4104
  | 15 => mR 1 [(16777216, zr 4104)]
  | 16 => mS
  | 17 => mS
  | _ => fun _ _ => True
theorem pr11_mv (g : Nat) (i : Nat) (v : Value) (w w' : World) (b : Below w.heap.size w w') (h : pr11 g i v w) : pr11 g i v w' := by
  rcases i with _ | _ | _ | _ | _ | _ | _ | _ | _ | _ | _ | _ | _ | _ | _ | _ | _ | _ | i
  all_goals first | exact mV_mv b h | exact mB_mv b h | exact mG_mv b h | exact mR_mv b h | exact mS_mv b h | exact trivial
theorem slG : IsSl Try.prog 76 75 (rgn 0 none 0 0) 2 32 := ⟨Try.underlying76, by kernel_rfl, rfl, by omega, by omega⟩
theorem slGG : IsSl Try.prog 82 76 (.slice none 0 0) 1 24 := ⟨Try.underlying82, by kernel_rfl, rfl, by omega, by omega⟩
theorem own_of_blk {w : World} {g base : Nat} (l : List UInt8) (h : Blk w g 5 (l.map b8).toArray) (hb : base ≤ g) (hl : l.length ≤ 1000) : w.ownsRow base 5 1 (.slice (some ⟨g, 0, none⟩) l.length l.length) l.length (l.map b8) :=
  ⟨by simp, .inr ⟨_, _, _, rfl, hb, h, Nat.le_refl _, by unfold maxLen; omega, by simp, by rw [Nat.mul_one]; exact List.take_of_length_le (by simp)⟩⟩
def stk16 : List (Nat × List UInt8) := [(16777216, []), (33554432, []), (50331648, []), (67108864, []), (83886080, []), (100663296, []), (117440512, []), (134217728, []), (150994944, []), (167772160, []), (184549376, []), (201326592, []), (218103808, []), (234881024, []), (251658240, []), (268435456, [])]
theorem rs_16 : rsL [16, 0, 0, 0, 0, 0, 0, 0, 0, 0, 0, 0, 0, 0, 0, 0, 0] = stk16 ∧ rsE [16, 0, 0, 0, 0, 0, 0, 0, 0, 0, 0, 0, 0, 0, 0, 0, 0] = 0 := by decide +kernel
set_option maxRecDepth 100000
theorem z1 : byE 65536 (zr 16384) twL 77824 4096 = 0 := by decide +kernel
theorem z2 : byE 65536 (zr 16384) twL 65536 4097 = 2 := by decide +kernel
theorem z3 : byE 65536 (zr 16384) twL 0 0 = 42 := by decide +kernel
theorem z4 : byE 65536 (zr 16384) twL 18446744073709551615 1 = 16 := by decide +kernel
theorem z5 : byE 65536 (zr 16384) twL 33554440 0 = 0 := by decide +kernel
theorem z6 : byE 65536 (zr 16384) twL 33554441 0 = 16 := by decide +kernel
theorem z7 : byE 65536 (zr 16384) twL 33554433 2 = 0 := by decide +kernel
theorem zw1 : woE 65536 (zr 16384) twL 81920 = 16 := by decide +kernel
theorem zw2 : woE 65536 (zr 16384) twL 65540 = 16 := by decide +kernel
theorem zw3 : woE 65536 (zr 16384) twL 0 = 42 := by decide +kernel
theorem z8 : byL 65536 (zr 16384) twL 33554433 2 = [2, 3] := by decide +kernel
theorem bytes_len {b n0 c0 m0 c : Nat} {A0 A : Option Addr} {l0 : List UInt8} {L : List (Nat × List UInt8)} (w : World) (hr0 : Rb w A0 n0 l0) (hc0 : n0 ≤ c0 ∧ c0 ≤ 9223372036854775807) (hb : b < 18446744073709551616) (hr : RdR w A m0 L) (hm : m0 ≤ 1000000) (a : Nat) (ha : a < 18446744073709551616) (n : Int) (m : Nat) (er : Int) (h2 : byE b l0 L a n = er) (h1 : m = if er = 0 then n.toNat else 0) :
    Calls Try.prog 35 #[rgn b A0 n0 c0, .slice A m0 c, .int .u64 (a : Int), .int .i64 n] w fun e w' => ∃ A' c', e = .returned (.tuple #[.slice A' m c', .int .i64 er]) ∧ Below w.heap.size w w' := by
  have hl : (byL b l0 L a n).length = m := by
    subst h1
    by_cases h : er = 0
    · rw [if_pos h]; exact (by_len (by rw [h2, h])).1
    · rw [if_neg h, (by_no h2 h).2]; rfl
  have h := bytes_any b A0 n0 c0 l0 A m0 c L a n w hr0 hc0 hb hr hm ha
  unfold ByP at h
  rw [hl, h2] at h
  refine h.mono ?_
  rintro e w' ⟨A', c', rfl, _, b1⟩
  exact ⟨A', c', rfl, b1⟩
theorem word_no {b n0 c0 m0 c : Nat} {A0 A : Option Addr} {l0 : List UInt8} {L : List (Nat × List UInt8)} (w : World) (hr0 : Rb w A0 n0 l0) (hc0 : n0 ≤ c0 ∧ c0 ≤ 9223372036854775807) (hb : b < 18446744073709551616) (hr : RdR w A m0 L) (hm : m0 ≤ 1000000) (a : Nat) (ha : a < 18446744073709551616) (er : Int) (h2 : woE b l0 L a = er) (h0 : er ≠ 0) :
    Calls Try.prog 34 #[rgn b A0 n0 c0, .slice A m0 c, .int .u64 (a : Int)] w fun e w' => e = .returned (.tuple #[.int .u64 0, .int .i64 er]) ∧ Below w.heap.size w w' := by
  have h := word_any b A0 n0 c0 l0 A m0 c L a w hr0 hc0 hb hr hm ha
  rw [show woN b l0 L a = 0 from by unfold woN; rw [if_neg (by rw [h2]; exact h0)], h2] at h
  exact h
theorem owv_at {w : World} {B H n c k b : Nat} {A : Option Addr} {L : List (Nat × List UInt8)} {l : List UInt8} (h : OwV w B H A n c L) (hk : k < n) (hL : L[k]? = some (b, l)) : ∃ g, A = some ⟨g, 0, none⟩ ∧ w.cell? ⟨g, k * 2, none⟩ = some (.int .u64 (b : Int)) := by
  obtain ⟨ad, b2, l2, Ai, ci, hA, _, hL2, h0, _⟩ := h.rd.at_ hk
  rw [hL] at hL2
  injection hL2 with hL2
  injection hL2 with e1 e2
  subst e1
  obtain ⟨_, _, _, vs, _, _, ho, _⟩ := h
  rcases ho.2 with ⟨hv, _⟩ | ⟨g, cap, cur, hv, _⟩
  · injection hv with hv
    rw [hA] at hv
    cases hv
  · injection hv with hv
    rw [hA] at hv
    injection hv with hv
    subst hv
    have hadd : (⟨g, 0, none⟩ : Addr).add (k * 2) = ⟨g, k * 2, none⟩ := by unfold Addr.add; split <;> simp_all
    rw [hadd] at h0
    exact ⟨g, hA, h0⟩
theorem st_17 : stB (List.replicate 17 (0, [])) = false := by decide +kernel
theorem st_33 : stB [(33554432, [])] = false := by decide +kernel
theorem st_two : stB [(16777216, []), (16777216, [])] = false := by decide +kernel
theorem st_12 : stB [(16777216, zr 12)] = false := by decide +kernel
theorem st_4104 : stB [(16777216, zr 4104)] = false := by decide +kernel
theorem hp_4 : hpB 65536 (zr 4).length = false := by rw [zr_len]; decide
theorem hp_16392 : hpB 65536 (zr 16392).length = false := by rw [zr_len]; decide

end Go.Proofs.Ytldaijkcmnnjpaa
