/- What SectionNames leans on. Each states its conditions. -/
import Derived.Test.YteaaiacgebikpaaSecNm2
import Derived.Test.YteaaiacgebikpaaSec6
import Derived.Test.YteaaiacgebikpaaSec7
import Derived.Test.YteaaiacgebikpaaSec8
namespace Go.Proofs.Yteaaiacgebikpaa
open Go.RowKit Wire Crc
set_option linter.unusedVariables false

theorem rdS_kinds {w : World} {A : Option Addr} (ks : List Nat) (h : Reads w w.heap.size 2 A ks.length (ks.map fun (k : Nat) => [Value.int .u8 (k : Int), Value.slice none 0 0]).flatten) (hk : ∀ k ∈ ks, k < 256) : RdS w A ks.length (ks.map fun k => (k, ([] : List UInt8))) := by
  refine ⟨by simp, _, by simp, fun u hu => ?_, h, fun k p hp => ?_⟩
  · obtain ⟨x, _, rfl⟩ := List.mem_map.1 hu
    rfl
  · rw [List.getElem?_map] at hp ⊢
    cases hx : ks[k]? with
    | none => rw [hx] at hp; cases hp
    | some x =>
      rw [hx] at hp
      simp at hp
      subst hp
      exact ⟨none, 0, rfl, by simp, Reads.none_, hk x (List.mem_of_getElem? hx)⟩
theorem rdS_at {w : World} {g n : Nat} {A : Option Addr} {c b : Nat} {l : List UInt8} (h : Blk w g 32 #[.int .u8 (b : Int), .slice A n c]) (hl : l.length = n) (hc : n ≤ c ∧ c ≤ 9223372036854775807) (hr : Rb w A n l) (hb : b < 256) : RdS w (some ⟨g, 0, none⟩) 1 [(b, l)] := by
  subst hl
  exact rdS_one h hc hr hb
theorem writeBad (A : Option Addr) (n c : Nat) (L : List (Nat × List UInt8)) (er : Int) (w : World) (hr : RdS w A n L) (hn : n ≤ 1000000) (he : ckS L = er) (h0 : er ≠ 0) :
    Calls Try.prog 18 #[.slice A n c] w fun e w' => ∃ A' c', e = .returned (.tuple #[.slice A' 0 c', .int .i64 er]) ∧ Below w.heap.size w w' := by
  have h := write25_any A n c L w hr hn
  rw [show wrL L = [] from by rw [wrL, if_neg (by rw [he]; exact h0)], he] at h
  refine h.mono ?_
  rintro e w' ⟨A', c', rfl, _, b⟩
  exact ⟨A', c', rfl, b⟩
theorem findBad (A : Option Addr) (n c : Nat) (L : List (Nat × List UInt8)) (kd : Nat) (er : Int) (w : World) (hr : RdS w A n L) (hn : n ≤ 1000000) (hk : kd < 256) (hLb : ∀ p ∈ L, p.2.length ≤ 1000000) (he : ckS L = er) (h0 : er ≠ 0) :
    Calls Try.prog 16 #[.slice A n c, .int .u8 (kd : Int)] w fun e w' => ∃ A' c', e = .returned (.tuple #[.slice A' 0 c', .int .i64 er]) ∧ Below w.heap.size w w' := by
  have h := find25_any A n c L kd w hr hn hk hLb
  rw [show fnL L kd = [] from by rw [fnL, if_neg (by rw [he]; exact h0)], show fnE25 L kd = er from by rw [fnE25, if_neg (by rw [he]; exact h0), he]] at h
  refine h.mono ?_
  rintro e w' ⟨A', c', rfl, _, b⟩
  exact ⟨A', c', rfl, b⟩
theorem checkIs (A : Option Addr) (n c : Nat) (L : List (Nat × List UInt8)) (er : Int) (w : World) (hr : RdS w A n L) (hn : n ≤ 1000000) (he : ckS L = er) :
    Calls Try.prog 23 #[.slice A n c] w fun e w' => e = .returned (.int .i64 er) ∧ Below w.heap.size w w' := by
  have h := check25_any A n c L w hr hn
  rw [he] at h
  exact h
theorem lenIs (A : Option Addr) (n c : Nat) (l : List Int) (v er : Int) (w : World) (hr : RdY w A n l) (hn : n ≤ 1000000) (hv : lgV l = v) (he : lgE l = er) :
    Calls Try.prog 21 #[.slice A n c] w fun e w' => e = .returned (.tuple #[.int .i64 v, .int .i64 er]) ∧ w = w' := by
  have h := lengthy25_any A n c l w hr hn
  rw [hv, he] at h
  exact h
theorem rdY_row (w : World) (xs : List Int) (h : ∀ x ∈ xs, -9223372036854775808 ≤ x ∧ x ≤ 9223372036854775807) : RdY (w.alloc (.cells (xs.map (Value.int .i64)).toArray 3)) (some ⟨w.heap.size, 0, none⟩) xs.length xs := by
  have h2 := reads_row w (xs.map (Value.int .i64)) 3
  rw [List.length_map] at h2
  exact ⟨h2.more (by simp), h⟩
theorem ck_long {Z : List UInt8} (h : Z.length = 199978) : ckS [(7, Z)] = 4 := by
  have h2 : [(7, Z)].map (fun p : Nat × List UInt8 => p.2.length) = [199978] := by simp [h]
  rw [ckS, if_pos (show ordB 0 [(7, Z)] = true from rfl), h2]; rfl
theorem ck_fits {Z : List UInt8} (h : Z.length = 199977) : ckS [(7, Z)] = 0 := by
  have h2 : [(7, Z)].map (fun p : Nat × List UInt8 => p.2.length) = [199977] := by simp [h]
  rw [ckS, if_pos (show ordB 0 [(7, Z)] = true from rfl), h2]; rfl
theorem reads_bytes_fr (w : World) (l : List UInt8) (e : TypeId) (fr : Nat × Nat) : Rb (w.alloc (.cells (l.map b8).toArray e fr)) (some ⟨w.heap.size, 0, none⟩) l.length l := by
  refine ⟨by simp, fun _ => ⟨_, rfl, by simp, fun j u hu => ?_⟩⟩
  have hadd : (⟨w.heap.size, 0, none⟩ : Addr).add j = ⟨w.heap.size, j, none⟩ := by unfold Addr.add; split <;> simp_all
  rw [hadd, World.cell?_alloc_mark]
  simpa using hu
theorem wr_three : wrL [(1, [97, 98, 99]), (4, []), (5, [0])] = wNm := by decide +kernel
theorem ck_three : ckS [(1, [97, 98, 99]), (4, []), (5, [0])] = 0 := by decide +kernel
theorem slIN1 : IsSl Try.prog 39 3 (.int .i64 0) 1 8 := ⟨Try.underlying39, by kernel_rfl, rfl, by omega, by omega⟩
theorem wpList_mk2 {ops : Array Oper} {rest : List Oper} {o : Oper} {a : Act} {Q : Exit → Act → World → Prop} (w : World) (hg : o.guard = none) (l c : Operand) {t e : TypeId} {z : Value} {bytes : Nat} (hop : o.op = Op.makeSlice t l c)
    (hsl : IsSl Try.prog t e z 2 bytes) (n : Nat) {kl kc : IntKind} {L C : Int} (hl : a.eval l = .int kl L) (hc : a.eval c = .int kc C) (hL : L = (n : Int)) (hC : C = (n : Int)) (hn : n * bytes ≤ 140737488355328)
    (hK : ∀ w', w'.ownsRow w.heap.size e 2 (.slice (some ⟨w.heap.size, 0, none⟩) n n) n (madeCells z.cells (n * 2)).toList → Below w.heap.size w w' → wpList Try.prog ops Q rest (a.put o.dst (.slice (some ⟨w.heap.size, 0, none⟩) n n)) w') : wpList Try.prog ops Q (o :: rest) a w := by
  obtain ⟨i0, hi0, hz0, hz1, hz2⟩ := info_parts hsl.hi
  have h1 : n ≤ n * bytes := Nat.le_mul_of_pos_right _ hsl.hb
  refine wpList_make_full w hg l c t hop w.heap.size e i0 z 2 hsl.ht hi0 hz0 hz1 kl kc L C n hl hc hL hC (by rw [hz2, Nat.mul_comm]; omega) (by unfold maxLen; omega) (Nat.le_refl _) ?_
  intro w' o2 g2
  exact hK w' o2 ((Below.refl w.heap.size w).grown g2 (Nat.le_refl _) (fun k h => by cases h))
theorem tld0 : ((redS (wNm.take 9)).2 == 24) = true := by decide +kernel
theorem tld1 : ((redS (wNm.take 48)).2 == 24) = true := by decide +kernel
theorem tld2 : ((redS (wNm.take 52)).2 == 12) = true := by decide +kernel
theorem tld3 : ((redS ((wNm.take 53).set 0 (87 + 1))).2 == 12) = true := by decide +kernel
theorem tld4 : ((redS ((wNm.take 53).set 4 (1 + 1))).2 == 12) = true := by decide +kernel
theorem tld5 : ((redS ((wNm.take 53).set 45 (78 + 1))).2 == 22) = true := by decide +kernel
theorem tld6 : ((redS ((wNm.take 53).set 50 (98 + 1))).2 == 22) = true := by decide +kernel
theorem tld7 : ((redS ((wNm.take 53).set 52 (0 + 1))).2 == 22) = true := by decide +kernel
theorem tld8 : ((redS ((wNm.take 53).set 6 (1 + 1))).2 == 22) = true := by decide +kernel

end Go.Proofs.Yteaaiacgebikpaa
