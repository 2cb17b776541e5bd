/- What ScriptNames leans on. Each states its conditions. -/
import Derived.Test.YtldaijkcmnnjpaaScr9
import Derived.Test.YtldaijkcmnnjpaaScrLaw2
import Derived.Test.YtldaijkcmnnjpaaScriptCuts
import Derived.Test.YtldaijkcmnnjpaaPre
import Derived.Test.YtldaijkcmnnjpaaTb4
import Derived.Test.YtldaijkcmnnjpaaWk
import Derived.BigQuiet
namespace Go.Proofs.Ytldaijkcmnnjpaa
open Go.RowKit Wire
set_option linter.unusedVariables false

set_option maxRecDepth 100000 in
set_option maxHeartbeats 1600000 in
theorem least11_any (w : World) :
    Calls Try.prog 16 #[] w fun e w' => e = .returned (scr none 0 0 1 0 0 1) ∧ Below w.heap.size w w' := by
  go_enter Try.func16, Try.ntmps16
  go_wp2_with fail
  refine ret_c rfl scrT rfl (Blk.new _ _ _) (by rfl) ?_
  exact ⟨rfl, (Below.refl w.heap.size w).alloc (Nat.le_refl _) _⟩
theorem bad_enc {A : Option Addr} {n c : Nat} {l : List Int} {st sk hp rt : Int} (w : World) (hr : RdI w w.heap.size A n l) (hn : n ≤ 1000000) (hnc : n ≤ c) (hb : scB st sk hp rt l = false) :
    Calls Try.prog 17 #[scr A n c st sk hp rt] w fun e w' => (∃ A c, e = .returned (.tuple #[.slice A 0 c, .int .i64 8])) ∧ Below w.heap.size w w' := by
  have h := encode11_any A n c l st sk hp rt w hr (by omega)
  rw [show enL st sk hp rt l = [] from by unfold enL; rw [hb]; rfl, show scE st sk hp rt l = 8 from by unfold scE; rw [hb]; rfl] at h
  refine h.mono ?_
  rintro e w' ⟨A, c, rfl, _, b⟩
  exact ⟨⟨A, c, rfl⟩, b⟩
theorem bad_cut {A : Option Addr} {n c : Nat} {l : List Int} {st sk hp rt : Int} (w : World) (hr : RdI w w.heap.size A n l) (hn : n ≤ 1000000) (hnc : n ≤ c) (hb : scB st sk hp rt l = false) :
    Calls Try.prog 18 #[scr A n c st sk hp rt, .int .i64 (-1)] w fun e w' => (∃ A c, e = .returned (.tuple #[scr A 0 c 0 0 0 0, .int .i64 8])) ∧ Below w.heap.size w w' := by
  have h := cut_any A n c l st sk hp rt (-1) w hr (by omega) hnc (by omega)
  have e1 : ctE st sk hp rt l (-1) = 8 := by unfold ctE; rw [hb]; rfl
  rw [show ctL st sk hp rt l (-1) = [] from by unfold ctL; rw [e1]; rfl, e1] at h
  refine h.mono ?_
  rintro e w' ⟨A, c, rfl, _, b⟩
  exact ⟨⟨A, c, rfl⟩, b⟩
theorem bad_chk {A : Option Addr} {n c : Nat} {l : List Int} {st sk hp rt : Int} (w : World) (hr : RdI w w.heap.size A n l) (hn : n ≤ 1000000) (hnc : n ≤ c) (hb : scB st sk hp rt l = false) :
    Calls Try.prog 19 #[scr A n c st sk hp rt] w fun e w' => e = .returned (.int .i64 8) ∧ Below w.heap.size w w' := by
  have h := check11_any A n c l st sk hp rt w hr (by omega)
  rw [show scE st sk hp rt l = 8 from by unfold scE; rw [hb]; rfl] at h
  exact h
theorem cut_arg (k : Int) (hk : -9223372036854775808 ≤ k ∧ k ≤ 9223372036854775807) (he : ctE 1 0 0 1 [] k = 2) (w : World) :
    Calls Try.prog 18 #[scr none 0 0 1 0 0 1, .int .i64 k] w fun e w' => (∃ A c, e = .returned (.tuple #[scr A 0 c 0 0 0 0, .int .i64 2])) ∧ Below w.heap.size w w' := by
  have h := cut_any none 0 0 [] 1 0 0 1 k w Reads.none_ (by omega) (by omega) hk
  rw [show ctL 1 0 0 1 [] k = [] from by unfold ctL; rw [he]; rfl, he] at h
  refine h.mono ?_
  rintro e w' ⟨A, c, rfl, _, b⟩
  exact ⟨⟨A, c, rfl⟩, b⟩
theorem bad_dec {A : Option Addr} {n c : Nat} {l : List UInt8} (w : World) (hr : Rb w A n l) (hnc : n ≤ c) (er : Int) (he : dcE l = er) (h0 : er ≠ 0) :
    Calls Try.prog 20 #[.slice A n c] w fun e w' => (∃ A c, e = .returned (.tuple #[scr A 0 c 0 0 0 0, .int .i64 er])) ∧ Below w.heap.size w w' := by
  have h := decode_any A n c l w hr hnc
  unfold DcPost at h
  rw [he] at h
  simp only [if_neg h0] at h
  refine h.mono ?_
  rintro e w' ⟨A, c, rfl, _, b⟩
  exact ⟨⟨A, c, rfl⟩, b⟩
theorem pick_is (p r v er : Int) (w : World) (hv : pkN p r = v) (he : pkE p r = er) :
    Calls Try.prog 21 #[.int .i64 p, .int .i64 r] w fun e w' => e = .returned (.tuple #[.int .i64 v, .int .i64 er]) ∧ Below w.heap.size w w' := by
  have h := pick_any p r w
  rw [hv, he] at h
  refine h.mono ?_
  rintro e w' ⟨rfl, rfl⟩
  exact ⟨rfl, Below.refl _ _⟩

abbrev Lim := Int × Int × Int × Int
def limC (p : Lim) : List Value := [.int .i64 p.1, .int .i64 p.2.1, .int .i64 p.2.2.1, .int .i64 p.2.2.2]
def scr0C (p : Lim) : List Value := [.slice none 0 0, .int .i64 p.1, .int .i64 p.2.1, .int .i64 p.2.2.1, .int .i64 p.2.2.2]
def limT : List Lim := [(0, 0, 0, 1), (5001, 0, 0, 1), (1, (-1), 0, 1), (1, 4097, 0, 1), (1, 0, (-1), 1), (1, 0, 16385, 1), (1, 0, 0, 0), (1, 0, 0, 17)]
theorem lim_take {j : Nat} {p : Lim} (h : limT[j]? = some p) : ((limT.take (j + 1)).map scr0C).flatten = ((limT.take j).map scr0C).flatten ++ scr0C p := by
  rw [take_succ_of h, List.map_append, List.flatten_append]; simp
theorem slSC : IsSl Try.prog 41 44 (scr none 0 0 0 0 0 0) 5 56 := ⟨Try.underlying41, by kernel_rfl, rfl, by omega, by omega⟩
theorem slIN : IsSl Try.prog 42 3 (.int .i64 0) 1 8 := ⟨Try.underlying42, by kernel_rfl, rfl, by omega, by omega⟩
theorem sl8s : IsSl Try.prog 25 5 (.int .u8 0) 1 1 := ⟨Try.underlying25, by kernel_rfl, rfl, by omega, by omega⟩
def prL (l : List (Value → World → Prop)) (i : Nat) : Value → World → Prop := l.getD i (fun _ _ => True)
def Mono (p : Value → World → Prop) : Prop := ∀ v w w', Below w.heap.size w w' → p v w → p v w'
theorem prL_mv {l : List (Value → World → Prop)} (h : ∀ p ∈ l, Mono p) (i : Nat) (v : Value) (w w' : World) (b : Below w.heap.size w w') (hp : prL l i v w) : prL l i v w' := by
  unfold prL at hp ⊢
  rw [List.getD_eq_getElem?_getD] at hp ⊢
  cases hx : l[i]? with
  | none => trivial
  | some p =>
    rw [hx] at hp
    exact h p (List.mem_of_getElem? hx) v w w' b hp
def mV (c : Value) (v : Value) (w : World) : Prop := v = c
def mI (n : Nat) (xs : List Int) (v : Value) (w : World) : Prop := ∃ g, v = .slice (some ⟨g, 0, none⟩) n n ∧ Blk w g 3 (xs.map vI).toArray
def mS (n : Nat) (xs : List Int) (v : Value) (w : World) : Prop := ∃ g, v = scr (some ⟨g, 0, none⟩) n n 1 0 0 1 ∧ Blk w g 3 (xs.map vI).toArray
def zi (n : Nat) : List Int := List.replicate n 0
def mT (v : Value) (w : World) : Prop := ∃ g g0 g1 g2, v = .slice (some ⟨g, 0, none⟩) 3 3 ∧ Blk w g 44 #[.slice (some ⟨g0, 0, none⟩) 2001 2001, .int .i64 1, .int .i64 0, .int .i64 0, .int .i64 1, .slice (some ⟨g1, 0, none⟩) 1 1, .int .i64 1, .int .i64 0, .int .i64 0, .int .i64 1, .slice (some ⟨g2, 0, none⟩) 1 1, .int .i64 1, .int .i64 0, .int .i64 0, .int .i64 1] ∧ Blk w g0 3 ((zi 2001).map vI).toArray ∧ Blk w g1 3 (([-1] : List Int).map vI).toArray ∧ Blk w g2 3 (([65536] : List Int).map vI).toArray
theorem mV_mono (c : Value) : Mono (mV c) := fun v w w' b h => h
theorem mI_mono (n : Nat) (xs : List Int) : Mono (mI n xs) := fun v w w' b h => by obtain ⟨g, e, h⟩ := h; exact ⟨g, e, Blk.mv h b⟩
theorem mS_mono (n : Nat) (xs : List Int) : Mono (mS n xs) := fun v w w' b h => by obtain ⟨g, e, h⟩ := h; exact ⟨g, e, Blk.mv h b⟩
theorem mT_mono : Mono mT := fun v w w' b h => by obtain ⟨g, g0, g1, g2, e, h, h0, h1, h2⟩ := h; exact ⟨g, g0, g1, g2, e, Blk.mv h b, Blk.mv h0 b, Blk.mv h1 b, Blk.mv h2 b⟩
theorem own_zi {w w' : World} {n g : Nat} (h : w'.ownsRow w.heap.size 3 1 (.slice (some ⟨g, 0, none⟩) n n) n (List.replicate n (.int .i64 0))) : Blk w' g 3 ((zi n).map vI).toArray := by
  rw [show (zi n).map vI = List.replicate n (.int .i64 0) from by rw [zi, List.map_replicate]; rfl]
  exact own_blk h
theorem rdI_blk {w : World} {g n : Nat} {xs : List Int} (h : Blk w g 3 (xs.map vI).toArray) (hn : xs.length = n) : RdI w w.heap.size (some ⟨g, 0, none⟩) n xs := reads_ofBlk h 1 n (by simp [hn])
/-- The table of scripts that are none. -/
def TB (w : World) (g : Nat) : Prop := ∀ j, j < 11 → ∃ A n c st sk hp rt l, w.cell? ⟨g, j * 5, none⟩ = some (.slice A n c) ∧ w.cell? ⟨g, j * 5 + 1, none⟩ = some (.int .i64 st) ∧ w.cell? ⟨g, j * 5 + 2, none⟩ = some (.int .i64 sk) ∧ w.cell? ⟨g, j * 5 + 3, none⟩ = some (.int .i64 hp) ∧ w.cell? ⟨g, j * 5 + 4, none⟩ = some (.int .i64 rt) ∧
  g < w.heap.size ∧ n ≤ 1000000 ∧ n ≤ c ∧ RdI w w.heap.size A n l ∧ scB st sk hp rt l = false
theorem TB.mv {w w' : World} {g : Nat} (h : TB w g) (b : Below w.heap.size w w') : TB w' g := fun j hj => by
  obtain ⟨A, n, c, st, sk, hp, rt, l, h0, h1, h2, h3, h4, h5, h6, h7, h8, h9⟩ := h j hj
  have q := fun i => b.cell (p := ⟨g, i, none⟩) h5
  exact ⟨A, n, c, st, sk, hp, rt, l, (q _).trans h0, (q _).trans h1, (q _).trans h2, (q _).trans h3, (q _).trans h4, Nat.lt_of_lt_of_le h5 b.size, h6, h7, h8.mv b, h9⟩
def cells8 : List Value := [.slice none 0 0, .int .i64 0, .int .i64 0, .int .i64 0, .int .i64 1, .slice none 0 0, .int .i64 5001, .int .i64 0, .int .i64 0, .int .i64 1, .slice none 0 0, .int .i64 1, .int .i64 (-1), .int .i64 0, .int .i64 1, .slice none 0 0, .int .i64 1, .int .i64 4097, .int .i64 0, .int .i64 1, .slice none 0 0, .int .i64 1, .int .i64 0, .int .i64 (-1), .int .i64 1, .slice none 0 0, .int .i64 1, .int .i64 0, .int .i64 16385, .int .i64 1, .slice none 0 0, .int .i64 1, .int .i64 0, .int .i64 0, .int .i64 0, .slice none 0 0, .int .i64 1, .int .i64 0, .int .i64 0, .int .i64 17]
theorem cells8_is : ((limT.take 8).map scr0C).flatten = cells8 := rfl
theorem sc_z : scB 1 0 0 1 (zi 2001) = false := by decide +kernel
theorem tb_of {w : World} {base : Nat} {A : Option Addr} {c g0 g1 g2 : Nat} (h : w.ownsRow base 44 5 (.slice A 11 c) 11 (cells8 ++ [.slice (some ⟨g0, 0, none⟩) 2001 2001, .int .i64 1, .int .i64 0, .int .i64 0, .int .i64 1, .slice (some ⟨g1, 0, none⟩) 1 1, .int .i64 1, .int .i64 0, .int .i64 0, .int .i64 1, .slice (some ⟨g2, 0, none⟩) 1 1, .int .i64 1, .int .i64 0, .int .i64 0, .int .i64 1])) (h0 : Blk w g0 3 ((zi 2001).map vI).toArray) (h1 : Blk w g1 3 (([-1] : List Int).map vI).toArray) (h2 : Blk w g2 3 (([65536] : List Int).map vI).toArray) : ∃ g, A = some ⟨g, 0, none⟩ ∧ TB w g := by
  rcases h.2 with ⟨_, hz⟩ | ⟨g, cap, cur, hv, _, hh, _, _, _, ht⟩
  · omega
  injection hv with hA
  refine ⟨g, hA, fun j hj => ?_⟩
  have hlt := heap_lt hh
  have q : ∀ (i : Nat) (u : Value), (cells8 ++ [.slice (some ⟨g0, 0, none⟩) 2001 2001, .int .i64 1, .int .i64 0, .int .i64 0, .int .i64 1, .slice (some ⟨g1, 0, none⟩) 1 1, .int .i64 1, .int .i64 0, .int .i64 0, .int .i64 1, .slice (some ⟨g2, 0, none⟩) 1 1, .int .i64 1, .int .i64 0, .int .i64 0, .int .i64 1])[i]? = some u → w.cell? ⟨g, i, none⟩ = some u := fun i u hu => by
    rw [cell_of_row w g i cur 44 (0, 0) hh]
    rw [← ht, List.getElem?_take] at hu
    split at hu
    · simpa using hu
    · cases hu
  rcases j with _ | _ | _ | _ | _ | _ | _ | _ | _ | _ | _ | j
  · exact ⟨none, 0, 0, 0, 0, 0, 1, [], q _ _ rfl, q _ _ rfl, q _ _ rfl, q _ _ rfl, q _ _ rfl, hlt, by omega, by omega, Reads.none_, by decide⟩
  · exact ⟨none, 0, 0, 5001, 0, 0, 1, [], q _ _ rfl, q _ _ rfl, q _ _ rfl, q _ _ rfl, q _ _ rfl, hlt, by omega, by omega, Reads.none_, by decide⟩
  · exact ⟨none, 0, 0, 1, (-1), 0, 1, [], q _ _ rfl, q _ _ rfl, q _ _ rfl, q _ _ rfl, q _ _ rfl, hlt, by omega, by omega, Reads.none_, by decide⟩
  · exact ⟨none, 0, 0, 1, 4097, 0, 1, [], q _ _ rfl, q _ _ rfl, q _ _ rfl, q _ _ rfl, q _ _ rfl, hlt, by omega, by omega, Reads.none_, by decide⟩
  · exact ⟨none, 0, 0, 1, 0, (-1), 1, [], q _ _ rfl, q _ _ rfl, q _ _ rfl, q _ _ rfl, q _ _ rfl, hlt, by omega, by omega, Reads.none_, by decide⟩
  · exact ⟨none, 0, 0, 1, 0, 16385, 1, [], q _ _ rfl, q _ _ rfl, q _ _ rfl, q _ _ rfl, q _ _ rfl, hlt, by omega, by omega, Reads.none_, by decide⟩
  · exact ⟨none, 0, 0, 1, 0, 0, 0, [], q _ _ rfl, q _ _ rfl, q _ _ rfl, q _ _ rfl, q _ _ rfl, hlt, by omega, by omega, Reads.none_, by decide⟩
  · exact ⟨none, 0, 0, 1, 0, 0, 17, [], q _ _ rfl, q _ _ rfl, q _ _ rfl, q _ _ rfl, q _ _ rfl, hlt, by omega, by omega, Reads.none_, by decide⟩
  · exact ⟨_, 2001, 2001, 1, 0, 0, 1, zi 2001, q _ _ rfl, q _ _ rfl, q _ _ rfl, q _ _ rfl, q _ _ rfl, hlt, by omega, by omega, rdI_blk h0 (List.length_replicate), sc_z⟩
  · exact ⟨_, 1, 1, 1, 0, 0, 1, [-1], q _ _ rfl, q _ _ rfl, q _ _ rfl, q _ _ rfl, q _ _ rfl, hlt, by omega, by omega, rdI_blk h1 rfl, by decide⟩
  · exact ⟨_, 1, 1, 1, 0, 0, 1, [65536], q _ _ rfl, q _ _ rfl, q _ _ rfl, q _ _ rfl, q _ _ rfl, hlt, by omega, by omega, rdI_blk h2 rfl, by decide⟩
  · omega
def P2 : List Int := List.replicate 2000 65535
theorem P2_len : P2.length = 2000 := List.length_replicate
theorem P2_blk {w : World} {g : Nat} (h : Blk w g 3 (arr .i64 2000 (upto 65535 2000))) : RdI w w.heap.size (some ⟨g, 0, none⟩) 2000 P2 := by
  rw [upto_all] at h
  refine rdI_blk (xs := P2) ?_ P2_len
  rw [show P2.map vI = List.replicate 2000 (Value.int .i64 ((65535 : Nat) : Int)) from by rw [P2, List.map_replicate]; rfl]
  exact h
theorem sc_most : scB 5000 4096 16384 16 P2 = true := by decide +kernel
def EB : List UInt8 := cod (fullL 5000 4096 16384 16 P2)
theorem EB_len : EB.length = 6010 := by decide +kernel
theorem en_most : enL 5000 4096 16384 16 P2 = EB ∧ scE 5000 4096 16384 16 P2 = 0 := ⟨by unfold enL; rw [if_pos sc_most]; rfl, by unfold scE; rw [if_pos sc_most]⟩
theorem sm_most : smB 5000 4096 16384 16 P2 5000 4096 16384 16 P2 = true := by simp [smB]
def Z6101 : List UInt8 := List.replicate 6101 0
theorem dc_long : dcE Z6101 = 4 := by unfold dcE; rw [if_pos (by rw [Z6101, List.length_replicate]; omega)]
theorem rb_z {w w' : World} {A : Option Addr} (h : w'.ownsRow w.heap.size 5 1 (.slice A 6101 6101) 6101 (List.replicate 6101 (.int .u8 0))) : Rb w' A 6101 Z6101 := by
  rw [rep_b8] at h
  exact own_rd h

end Go.Proofs.Ytldaijkcmnnjpaa
