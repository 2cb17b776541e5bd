/- What OpsNames leans on: bytes that are no instruction. Each states its conditions. -/
import Derived.Test.YtkhdeoihjnpnaaaOps10
import Derived.BigQuiet
namespace Go.Proofs.Ytkhdeoihjnpnaaa
open Go.RowKit Wire
set_option linter.unusedVariables false

set_option maxRecDepth 100000 in
set_option maxHeartbeats 1600000 in
theorem form6_yes (want : Int) (A : Option Addr) (n c : Nat) (l : List UInt8) (w : World) (hr : Rb w A n l) (hnc : n ≤ c ∧ n ≤ 9223372036854775807) (he : dcE l 0 = want) (hw : want ≠ 0) :
    Calls Try.prog 20 #[.int .i64 want, .slice A n c] w fun e w' => e = .returned (.bool true) ∧ Below w.heap.size w w' := by
  have hB := Below.refl w.heap.size w
  go_enter Try.func20, Try.ntmps20
  go_wp2_with fail
  have HD := decode6_any A n c l 0 (by omega) w hr hnc
  unfold DeP cur insV at HD
  rw [he] at HD
  refine HD.mono ?_
  rintro e w1 ⟨⟨h0, _⟩ | ⟨_, rfl⟩, b⟩
  · exact absurd h0 hw
  replace hB := b
  go_wp2_with fail
  go_ret
  exact ⟨rfl, (by have hs_ := hB.size; repeat (first | with_reducible exact hB | with_reducible (refine Below.setCell ?_ (by simp <;> omega) _) | with_reducible (refine Below.alloc ?_ (by first | exact hs_ | (simp <;> omega)) _) | with_reducible (refine Below.drew ?_)))⟩

theorem fl4 {α : Type} (f : α → List Value) (hf : ∀ a, (f a).length = 4) : ∀ (L : List α) (j k : Nat), k < 4 → (L.map f).flatten[j * 4 + k]? = (L[j]?).bind fun a => (f a)[k]?
  | [], j, k, _ => by simp
  | x :: L, 0, k, hk => by
    simp only [List.map_cons, List.flatten_cons, Nat.zero_mul, Nat.zero_add]
    rw [List.getElem?_append_left (by rw [hf]; exact hk)]
    rfl
  | x :: L, j + 1, k, hk => by
    simp only [List.map_cons, List.flatten_cons]
    rw [List.getElem?_append_right (by rw [hf]; omega), hf, show (j + 1) * 4 + k - 4 = j * 4 + k from by omega, fl4 f hf L j k hk]
    rfl
abbrev Ins := Nat × Int × Int × Int
def insC (p : Ins) : List Value := [.int .u8 (p.1 : Int), .int .i64 p.2.1, .int .i64 p.2.2.1, .int .i64 p.2.2.2]
theorem ins_at {w : World} {g : Nat} {t : TypeId} {L : List Ins} {cs : Array Value} (h : Blk w g t cs) (hc : cs = (L.map insC).flatten.toArray) {j : Nat} {op : Nat} {x y z : Int} (hj : L[j]? = some (op, x, y, z)) :
    w.cell? ⟨g, j * 4, none⟩ = some (.int .u8 (op : Int)) ∧ w.cell? ⟨g, j * 4 + 1, none⟩ = some (.int .i64 x) ∧ w.cell? ⟨g, j * 4 + 2, none⟩ = some (.int .i64 y) ∧ w.cell? ⟨g, j * 4 + 3, none⟩ = some (.int .i64 z) := by
  subst hc
  have q : ∀ k, k < 4 → w.cell? ⟨g, j * 4 + k, none⟩ = (insC (op, x, y, z))[k]? := fun k hk => by
    rw [h.cell, List.getElem?_toArray, fl4 insC (fun _ => rfl) L j k hk, hj]; rfl
  exact ⟨q 0 (by omega), q 1 (by omega), q 2 (by omega), q 3 (by omega)⟩
def InR (p : Ins) : Bool := decide (p.1 < 256) && (decide (-9223372036854775808 ≤ p.2.1) && decide (p.2.1 ≤ 9223372036854775807)) && (decide (-9223372036854775808 ≤ p.2.2.1) && decide (p.2.2.1 ≤ 9223372036854775807)) && (decide (-9223372036854775808 ≤ p.2.2.2) && decide (p.2.2.2 ≤ 9223372036854775807))
theorem ins_get {L : List Ins} {er : Int} (h : L.all (fun p => InR p && decide (ckI p.1 p.2.1 p.2.2.1 p.2.2.2 = er)) = true) {j : Nat} (hj : j < L.length) :
    ∃ op x y z, L[j]? = some (op, x, y, z) ∧ op < 256 ∧ (-9223372036854775808 ≤ x ∧ x ≤ 9223372036854775807) ∧ (-9223372036854775808 ≤ y ∧ y ≤ 9223372036854775807) ∧ (-9223372036854775808 ≤ z ∧ z ≤ 9223372036854775807) ∧ ckI op x y z = er := by
  have h1 := (List.all_eq_true.1 h) L[j] (List.getElem_mem hj)
  generalize he : L[j] = p at h1
  obtain ⟨op, x, y, z⟩ := p
  simp [InR] at h1
  exact ⟨op, x, y, z, by rw [List.getElem?_eq_getElem hj, he], by omega, by omega, by omega, by omega, by omega⟩
def goodL : List Ins := [(1, 15, (-9223372036854775808), 0), (1, 0, 9223372036854775807, 0), (2, 0, 31, 0), (3, 0, 1, 0), (13, 0, 0, 7), (14, 0, 7, 0), (22, 199, 0, 0), (23, 15, 199, 0), (25, (-1), 31, 0), (26, 31, 0, 0), (34, 15, 0, 0)]
def badL : List Ins := [(0, 0, 0, 0), (35, 0, 0, 0), (255, 0, 0, 0), (1, 16, 0, 0), (1, (-1), 0, 0), (1, 0, 0, 1), (2, 0, 32, 0), (3, 0, 2, 0), (3, 0, (-1), 0), (13, 0, 0, 8), (14, 0, 8, 0), (22, (-1), 0, 0), (22, 0, 1, 0), (23, 0, 200, 0), (25, (-2), 0, 0), (25, 0, 32, 0), (26, (-1), 0, 0), (27, 32, 0, 0), (31, 1, 0, 0), (34, (-2), 0, 0), (34, 16, 0, 0), (17, 0, 0, 1), (6, 0, 0, 16), (29, 0, 16, 0)]
theorem good_all : goodL.all (fun p => InR p && decide (ckI p.1 p.2.1 p.2.2.1 p.2.2.2 = 0)) = true := by decide +kernel
theorem bad_all : badL.all (fun p => InR p && decide (ckI p.1 p.2.1 p.2.2.1 p.2.2.2 = 8)) = true := by decide +kernel
theorem bad_check {op : Nat} {x y z : Int} (hop : op < 256) (h : ckI op x y z = 8) (w : World) : Calls Try.prog 10 #[insV op x y z] w fun e w' => e = .returned (.int .i64 8) ∧ Below w.heap.size w w' := by
  have := check6_any op hop x y z w
  rwa [h] at this
theorem bad_encode {op : Nat} {x y z : Int} (hop : op < 256) (hx : -9223372036854775808 ≤ x ∧ x ≤ 9223372036854775807) (hy : -9223372036854775808 ≤ y ∧ y ≤ 9223372036854775807) (hz : -9223372036854775808 ≤ z ∧ z ≤ 9223372036854775807) (h : ckI op x y z = 8) (w : World) : Calls Try.prog 18 #[insV op x y z] w fun e w' => ∃ A c, e = .returned (.tuple #[.slice A 0 c, .int .i64 8]) ∧ Below w.heap.size w w' := by
  have := encode6_any op hop x y z hx hy hz w
  unfold EnP at this
  rw [h, show enI op x y z = [] from by unfold enI; rw [h]; rfl] at this
  refine this.mono ?_
  rintro e w' ⟨A, c, rfl, _, b⟩
  exact ⟨A, c, rfl, b⟩
theorem bad_slots {op : Nat} {x y z : Int} (hop : op < 256) (h : ckI op x y z = 8) (w : World) : Calls Try.prog 9 #[insV op x y z] w fun e w' => ∃ A c A' c', e = .returned (.tuple #[.slice A 0 c, .slice A' 0 c', .int .i64 8]) ∧ Below w.heap.size w w' := by
  have := slots_any op hop x y z w
  unfold SlP at this
  rw [h, show slR op x y z = [] from by unfold slR; rw [h]; rfl, show slW op x y z = [] from by unfold slW; rw [h]; rfl] at this
  refine this.mono ?_
  rintro e w' ⟨A, c, A', c', rfl, _, _, b⟩
  exact ⟨A, c, A', c', rfl, b⟩

end Go.Proofs.Ytkhdeoihjnpnaaa
