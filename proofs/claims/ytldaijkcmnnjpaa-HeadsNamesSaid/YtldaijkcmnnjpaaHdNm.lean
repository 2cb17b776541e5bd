/- What HeadsNames leans on. Each states its conditions. -/
import Derived.Test.YtldaijkcmnnjpaaHd4
import Derived.Test.YtldaijkcmnnjpaaHd8
import Derived.Test.YtldaijkcmnnjpaaHd11
import Derived.Test.YtldaijkcmnnjpaaHd12
import Derived.Test.YtldaijkcmnnjpaaHd15
import Derived.Test.YtldaijkcmnnjpaaHd18
import Derived.Test.YtldaijkcmnnjpaaHd19
import Derived.Test.YtldaijkcmnnjpaaTb4
import Derived.Test.YtldaijkcmnnjpaaWk
import Derived.BigQuiet
namespace Go.Proofs.Ytldaijkcmnnjpaa
open Go.RowKit Wire
set_option linter.unusedVariables false

abbrev Ent := Nat × Int × Int
def endC (p : Ent) : List Value := [.int .u8 (p.1 : Int), .int .i64 p.2.1, .int .i64 p.2.2]
def endT : List Ent := [(0, 0, 0), (1, 0, 0), (7, 0, 0), (2, (-1), 0), (2, 16, 0), (3, 0, 0), (6, 0, (-1)), (6, 0, 5001)]
theorem endT_all : endT.all (fun p => decide (p.1 < 256) && (decide (-9223372036854775808 ≤ p.2.1) && decide (p.2.1 ≤ 9223372036854775807)) && (enB p.1 p.2.1 p.2.2 == false)) = true := by decide +kernel
theorem end_get {j : Nat} (hj : j < endT.length) : ∃ x f s, endT[j]? = some (x, f, s) ∧ x < 256 ∧ (-9223372036854775808 ≤ f ∧ f ≤ 9223372036854775807) ∧ enB x f s = false := by
  have h1 := (List.all_eq_true.1 endT_all) endT[j] (List.getElem_mem hj)
  generalize he : endT[j] = p at h1
  obtain ⟨x, f, s⟩ := p
  simp only [Bool.and_eq_true, decide_eq_true_eq, beq_iff_eq] at h1
  exact ⟨x, f, s, by rw [List.getElem?_eq_getElem hj, he], h1.1.1, h1.1.2, h1.2⟩
theorem bad_end {x : Nat} {f s : Int} (w : World) (hx : x < 256) (hf : -9223372036854775808 ≤ f ∧ f ≤ 9223372036854775807) (hb : enB x f s = false) :
    Calls Try.prog 40 #[endV x f s] w fun e w' => (∃ A c, e = .returned (.tuple #[.slice A 0 c, .int .i64 8])) ∧ Below w.heap.size w w' := by
  have h := writeEnded_any x f s w hx hf
  rw [show weL x f s = [] from by unfold weL; rw [hb]; rfl, show weE x f s = 8 from by unfold weE; rw [hb]; rfl] at h
  refine h.mono ?_
  rintro e w' ⟨A, c, rfl, _, b⟩
  exact ⟨⟨A, c, rfl⟩, b⟩
def rtB (x : Rtn) : Bool := decide (x.1 < 256) && decide (x.2.1 < 18446744073709551616) && decide (x.2.2.1 < 18446744073709551616) && decide (x.2.2.2.1 < 18446744073709551616) && decide (x.2.2.2.2.1 < 18446744073709551616) && (decide (-9223372036854775808 ≤ x.2.2.2.2.2) && decide (x.2.2.2.2.2 ≤ 9223372036854775807))
theorem rtB_ok {x : Rtn} (h : rtB x = true) : rtOk x := by
  simp only [rtB, Bool.and_eq_true, decide_eq_true_eq] at h
  unfold rtOk
  omega
def badH : List Rtn := [(0, 0, 0, 0, 0, 0), (4, 0, 16777216, 0, 0, 0), (1, 0, 16777208, 0, 0, 0), (1, 0, 16781320, 0, 0, 0), (1, 0, 16777220, 0, 0, 0), (1, 0, 16777216, 4, 0, 0), (1, 0, 16777216, 0, 1, 0), (1, 0, 16777216, 0, 0, 1), (3, 0, 16777224, 0, 0, 0), (3, 256, 16777216, 0, 0, 0), (3, 0, 16777216, 8, 0, 0), (3, 0, 16777216, 0, 8, 0), (3, 0, 16777216, 0, 0, (-1))]
theorem badH_all : badH.all (fun x => rtB x && (hsB [x] == false)) = true := by decide +kernel
theorem badH_get {j : Nat} (hj : j < badH.length) : ∃ x, badH[j]? = some x ∧ rtOk x ∧ hsB [x] = false := by
  have h1 := (List.all_eq_true.1 badH_all) badH[j] (List.getElem_mem hj)
  simp only [Bool.and_eq_true, beq_iff_eq] at h1
  exact ⟨_, List.getElem?_eq_getElem hj, rtB_ok h1.1, h1.2⟩
theorem rdT_at {w : World} {g : Nat} {cs : Array Value} (h : Blk w g 94 cs) (hc : cs = (badH.map rtC).flatten.toArray) {j : Nat} {x : Rtn} (hj : badH[j]? = some x) (hx : rtOk x) : RdT w (some ⟨g, j * 6, none⟩) 1 [x] :=
  ⟨rfl, by have := stru_reads rtC 6 (fun _ => rfl) h hc hj; simpa using this, by intro y hy; simp at hy; subst hy; exact hx⟩
theorem rdT_new (w : World) (L : List Rtn) (hx : ∀ x ∈ L, rtB x = true) {cs : Array Value} (hc : cs = (L.map rtC).flatten.toArray) : RdT (w.alloc (.cells cs 94)) (some ⟨w.heap.size, 0, none⟩) L.length L := by
  subst hc
  exact ⟨rfl, reads_newT w 94 (L.map rtC).flatten 6 L.length (by induction L with | nil => rfl | cons y l ih => simp only [List.map_cons, List.flatten_cons, List.length_append, List.length_cons, ih (fun x hm => hx x (List.mem_cons_of_mem _ hm))]; rw [show (rtC y).length = 6 from rfl]; omega), fun x hm => rtB_ok (hx x hm)⟩
theorem bad_heads {A : Option Addr} {n c : Nat} {L : List Rtn} (w : World) (hr : RdT w A n L) (hn : n ≤ 1000000) (hb : hsB L = false) :
    Calls Try.prog 42 #[.slice A n c] w fun e w' => (∃ A c, e = .returned (.tuple #[.slice A 0 c, .int .i64 8])) ∧ Below w.heap.size w w' := by
  have h := writeHeads_any A n c L w hr hn
  rw [show whsL L = [] from by unfold whsL; rw [hb]; rfl, show whsE L = 8 from by unfold whsE; rw [hb]; rfl] at h
  refine h.mono ?_
  rintro e w' ⟨A, c, rfl, _, b⟩
  exact ⟨⟨A, c, rfl⟩, b⟩
theorem bad_chains {A : Option Addr} {n c : Nat} {L : List (List Nat)} (w : World) (hr : RdC w A n L) (hn : n ≤ 1000000) (hb : csB L = false) :
    Calls Try.prog 45 #[.slice A n c] w fun e w' => (∃ A c, e = .returned (.tuple #[.slice A 0 c, .int .i64 8])) ∧ Below w.heap.size w w' := by
  have h := writeChains_any A n c L w hr hn
  rw [show wcsL L = [] from by unfold wcsL; rw [hb]; rfl, show wcsE L = 8 from by unfold wcsE; rw [hb]; rfl] at h
  refine h.mono ?_
  rintro e w' ⟨A, c, rfl, _, b⟩
  exact ⟨⟨A, c, rfl⟩, b⟩
def RbX := RdX (fun l : List UInt8 => l.map b8) 1
def formT : List (List UInt8) := [[], [0], [17], [128, 0], [1], [1, 3, 0, 0, 0, 0], [1, 3, 0, 0, 0, 0, 0, 0], [1, 3, 1, 0, 0, 0, 0], [2, 3, 0, 0, 0, 0, 0], [1, 1, 0, 129, 4, 0, 0, 0], [1, 1, 0, 0, 128, 128, 128, 128, 128, 128, 128, 128, 32, 0, 0]]
def listT : List (List UInt8) := [[], [0], [17], [1], [1, 1], [1, 1, 0], [1, 0, 0], [1, 155, 3], [1, 1, 128, 0], [1, 1, 128, 128, 128, 128, 128, 128, 128, 128, 32]]
def outT : List (List UInt8) := [[], [2], [2, 0], [2, 0, 0, 0], [2, 1, 0], [2, 32, 0], [3, 0, 0], [1, 0, 0], [2, 0, 137, 39], [2, 255, 255, 255, 255, 255, 255, 255, 255, 255, 1, 0]]
theorem formT_len : ∀ l ∈ formT, l.length ≤ 200000 := by decide
theorem listT_len : ∀ l ∈ listT, l.length ≤ 200000 := by decide
theorem outT_len : ∀ l ∈ outT, l.length ≤ 200000 := by decide
theorem formT_all : formT.all (fun l => (rhd l).isNone) = true := by decide +kernel
theorem listT_all : listT.all (fun l => (rch l).isNone) = true := by decide +kernel
theorem outT_all : outT.all (fun l => (red l).isNone) = true := by decide +kernel
theorem bad_rh {A : Option Addr} {n c : Nat} {l : List UInt8} (w : World) (hr : Rb w A n l) (hl : l ∈ formT) (hn : l.length ≤ 200000) :
    Calls Try.prog 44 #[.slice A n c] w fun e w' => e = .returned (.tuple #[.slice none 0 0, .int .i64 12]) ∧ Below w.heap.size w w' := by
  have hz : rhd l = none := by simpa using List.all_eq_true.1 formT_all l hl
  refine (readHeads_any A n c l w hr hn).mono ?_
  rintro e w' ⟨h, b⟩
  rcases h with ⟨_, h⟩ | h
  · exact ⟨h, b⟩
  · exfalso
    rw [hz] at h
    obtain ⟨L, A', c', h, _⟩ := h
    cases h
theorem bad_rc {A : Option Addr} {n c : Nat} {l : List UInt8} (w : World) (hr : Rb w A n l) (hl : l ∈ listT) (hn : l.length ≤ 200000) :
    Calls Try.prog 46 #[.slice A n c] w fun e w' => e = .returned (.tuple #[.slice none 0 0, .int .i64 12]) ∧ Below w.heap.size w w' := by
  have hz : rch l = none := by simpa using List.all_eq_true.1 listT_all l hl
  refine (readChains_any A n c l w hr hn).mono ?_
  rintro e w' ⟨h, b⟩
  rcases h with ⟨_, h⟩ | h
  · exact ⟨h, b⟩
  · exfalso
    rw [hz] at h
    obtain ⟨L, A', c', h, _⟩ := h
    cases h
theorem bad_re {A : Option Addr} {n c : Nat} {l : List UInt8} (w : World) (hr : Rb w A n l) (hl : l ∈ outT) (hn : l.length ≤ 200000) :
    Calls Try.prog 47 #[.slice A n c] w fun e w' => e = .returned (.tuple #[endV 0 0 0, .int .i64 12]) ∧ Below w.heap.size w w' := by
  have hz : red l = none := by simpa using List.all_eq_true.1 outT_all l hl
  refine (readEnded_any A n c l w hr hn).mono ?_
  rintro e w' ⟨h, b⟩
  rcases h with ⟨_, h⟩ | h
  · exact ⟨h, b⟩
  · exfalso
    rw [hz] at h
    obtain ⟨x, f, s, h, _⟩ := h
    cases h
theorem slV : IsSl Try.prog 62 55 (.int .u64 0) 1 8 := ⟨Try.underlying62, by kernel_rfl, rfl, by omega, by omega⟩
theorem slVV : IsSl Try.prog 100 62 (.slice none 0 0) 1 24 := ⟨Try.underlying100, by kernel_rfl, rfl, by omega, by omega⟩
theorem slV3 : IsSl Try.prog 101 100 (.slice none 0 0) 1 24 := ⟨Try.underlying101, by kernel_rfl, rfl, by omega, by omega⟩
def prU (n : Nat) (l : List Nat) (v : Value) (w : World) : Prop := ∃ g, v = .slice (some ⟨g, 0, none⟩) n n ∧ RdU w (some ⟨g, 0, none⟩) n l
def prC (n : Nat) (LL : List (List Nat)) (v : Value) (w : World) : Prop := ∃ g, v = .slice (some ⟨g, 0, none⟩) n n ∧ RdC w (some ⟨g, 0, none⟩) n LL
/-- The table of chains that are none. -/
def TCh (w : World) (g : Nat) : Prop := ∀ j, j < 9 → ∃ A n LL, w.cell? ⟨g, j, none⟩ = some (.slice A n n) ∧ g < w.heap.size ∧ n ≤ 1000000 ∧ RdC w A n LL ∧ csB LL = false
theorem TCh.mv {w w' : World} {g : Nat} (h : TCh w g) (b : Below w.heap.size w w') : TCh w' g := fun j hj => by
  obtain ⟨A, n, LL, h1, h2, h3, h4, h5⟩ := h j hj
  exact ⟨A, n, LL, (b.cell (p := ⟨g, j, none⟩) h2).trans h1, Nat.lt_of_lt_of_le h2 b.size, h3, h4.mv b, h5⟩
def prT (v : Value) (w : World) : Prop := ∃ g, v = .slice (some ⟨g, 0, none⟩) 9 9 ∧ TCh w g
def Z411 : List Nat := List.replicate 411 0
def prH : Nat → Value → World → Prop
  | 0 => prC 17 (List.replicate 17 [])
  | 1 => prU 1 [0]
  | 2 => prC 1 [[0]]
  | 3 => prU 1 [8]
  | 4 => prC 1 [[8]]
  | 5 => prU 1 [65540]
  | 6 => prC 1 [[65540]]
  | 7 => prU 1 [65528]
  | 8 => prC 1 [[65528]]
  | 9 => prU 1 [81920]
  | 10 => prC 1 [[81920]]
  | 11 => prU 1 [18446744073709551608]
  | 12 => prC 1 [[18446744073709551608]]
  | 13 => prU 411 Z411
  | 14 => prC 1 [Z411]
  | 15 => prT
  | 16 => prT
  | _ => fun _ _ => True
theorem prU_mv {n : Nat} {l : List Nat} {v : Value} {w w' : World} (b : Below w.heap.size w w') (h : prU n l v w) : prU n l v w' := by obtain ⟨g, e, h⟩ := h; exact ⟨g, e, h.mv b⟩
theorem prC_mv {n : Nat} {l : List (List Nat)} {v : Value} {w w' : World} (b : Below w.heap.size w w') (h : prC n l v w) : prC n l v w' := by obtain ⟨g, e, h⟩ := h; exact ⟨g, e, h.mv b⟩
theorem prT_mv {v : Value} {w w' : World} (b : Below w.heap.size w w') (h : prT v w) : prT v w' := by obtain ⟨g, e, h⟩ := h; exact ⟨g, e, h.mv b⟩
theorem prH_mv (i : Nat) (v : Value) (w w' : World) (b : Below w.heap.size w w') (h : prH i v w) : prH i v w' := by
  rcases i with _ | _ | _ | _ | _ | _ | _ | _ | _ | _ | _ | _ | _ | _ | _ | _ | _ | i
  all_goals first | exact prC_mv b h | exact prU_mv b h | exact prT_mv b h | exact trivial
theorem rdU_one (w : World) (x : Nat) (hx : x < 18446744073709551616) : RdU (w.alloc (.cells #[.int .u64 (x : Int)] 55)) (some ⟨w.heap.size, 0, none⟩) 1 [x] :=
  ⟨reads_newT w 55 [.int .u64 (x : Int)] 1 1 rfl, by intro y hy; simp at hy; omega⟩
theorem rdC_one {w : World} {n c : Nat} {A : Option Addr} {l : List Nat} (h : RdU w A n l) (hl : l.length = n) (hc : n ≤ c ∧ c ≤ 9223372036854775807) : RdC (w.alloc (.cells #[.slice A n c] 62)) (some ⟨w.heap.size, 0, none⟩) 1 [l] := by
  refine ⟨rfl, [.slice A n c], reads_newT w 62 [.slice A n c] 1 1 rfl, fun k li hk => ?_⟩
  rcases k with _ | k
  · simp at hk
    subst hk
    subst hl
    exact ⟨A, c, rfl, hc, h.mv ((Below.refl _ _).alloc (Nat.le_refl _) _)⟩
  · simp at hk
theorem rdC_zeros {w w' : World} {n : Nat} {A : Option Addr} (h : w'.ownsRow w.heap.size 62 1 (.slice A n n) n (List.replicate n (.slice none 0 0))) : RdC w' A n (List.replicate n []) := by
  refine ⟨by simp, _, own_reads h, fun k li hk => ?_⟩
  rw [List.getElem?_replicate] at hk ⊢
  split at hk
  · injection hk with hk
    subst hk
    rename_i hlt
    rw [if_pos hlt]
    exact ⟨none, 0, rfl, by simp, Reads.none_, by simp⟩
  · cases hk
theorem rdU_zeros {w w' : World} {n : Nat} {A : Option Addr} (h : w'.ownsRow w.heap.size 55 1 (.slice A n n) n (List.replicate n (.int .u64 0))) : RdU w' A n (List.replicate n 0) := by
  have e : List.replicate n (Value.int .u64 0) = (List.replicate n 0).map vU := by rw [List.map_replicate]; rfl
  rw [e] at h
  exact ⟨own_reads h, by intro x hx; rw [List.eq_of_mem_replicate hx]; omega⟩
def L410 : List Nat := List.replicate 410 81912
theorem csB_410 : csB [L410] = true := by decide +kernel
theorem rdU_410 {w : World} {g : Nat} (h : Blk w g 55 (arr .u64 410 (upto 81912 410))) : RdU w (some ⟨g, 0, none⟩) 410 L410 := by
  rw [upto_all] at h
  have e : (List.replicate 410 (Value.int .u64 ((81912 : Nat) : Int))) = L410.map vU := by rw [L410, List.map_replicate]; rfl
  rw [e] at h
  exact ⟨reads_ofBlk h 1 410 (by rw [List.size_toArray, List.length_map, L410, List.length_replicate]), by intro x hx; rw [List.eq_of_mem_replicate hx]; omega⟩
theorem good_chains {A : Option Addr} {n c : Nat} {L : List (List Nat)} (w : World) (hr : RdC w A n L) (hn : n ≤ 1000000) (hb : csB L = true) :
    Calls Try.prog 45 #[.slice A n c] w fun e w' => (∃ A m c, e = .returned (.tuple #[.slice A m c, .int .i64 0])) ∧ Below w.heap.size w w' := by
  have h := writeChains_any A n c L w hr hn
  rw [show wcsE L = 0 from by unfold wcsE; rw [hb]; rfl] at h
  refine h.mono ?_
  rintro e w' ⟨A, c, rfl, _, b⟩
  exact ⟨⟨A, _, c, rfl⟩, b⟩
theorem csB_17 : csB (List.replicate 17 []) = false := by decide +kernel
theorem csB_411 : csB [Z411] = false := by decide +kernel

end Go.Proofs.Ytldaijkcmnnjpaa
