/- Contracts and laws of a chapter that its statement of names leans on. Each states its conditions. -/
import Derived.Test.YtldaijkcmnnjpaaHd18
namespace Go.Proofs.Ytldaijkcmnnjpaa
open Go.RowKit Wire
set_option linter.unusedVariables false
set_option maxRecDepth 100000 in
set_option maxHeartbeats 1600000 in
theorem readEnded_any (A : Option Addr) (n c : Nat) (l : List UInt8) (w : World) (hr : Rb w A n l) (hn : l.length ≤ 200000) :
    Calls Try.prog 47 #[.slice A n c] w fun e w' => ReP w l e w' := by
  have HR := Lib.hid hr
  clear hr
  have hB : Below w.heap.size w (w.alloc (.cells #[.int .u8 0, .int .i64 0, .int .i64 0] 89)) := (Below.alloc (Below.refl w.heap.size w) (by simp <;> omega) (.cells #[.int .u8 0, .int .i64 0, .int .i64 0] 89))
  have hz := Blk.new w 89 #[.int .u8 0, .int .i64 0, .int .i64 0]
  go_enter Try.func47, Try.ntmps47
  have z1 : (w.alloc (.cells #[.int .u8 0, .int .i64 0, .int .i64 0] 89)).cell? ⟨w.heap.size, 0, none⟩ = some (.int .u8 0) := (hz.cell 0).trans rfl
  have z2 := hz.frozen 0
  have z3 : (w.alloc (.cells #[.int .u8 0, .int .i64 0, .int .i64 0] 89)).cell? ⟨w.heap.size, 1, none⟩ = some (.int .i64 0) := (hz.cell 1).trans rfl
  have z4 := hz.frozen 1
  have z5 : (w.alloc (.cells #[.int .u8 0, .int .i64 0, .int .i64 0] 89)).cell? ⟨w.heap.size, 2, none⟩ = some (.int .i64 0) := (hz.cell 2).trans rfl
  have z6 := hz.frozen 2
  have z7 := hz.lt
  go_wp2_with fail
  with_reducible refine (read27e_any A n c l _ (HR.out.mv hB) hn).mono ?_
  rintro e w1 ⟨hq, bB⟩
  replace hz := Blk.via0 (g := w.heap.size) (t := 89) bB (by repeat (first | with_reducible exact hz | with_reducible (apply Blk.set_) | with_reducible (apply Blk.far; case hp => (simp <;> omega)) | with_reducible (apply Blk.alloc) | with_reducible (apply Blk.drew)))
  replace hz : Blk w1 w.heap.size 89 #[.int .u8 0, .int .i64 0, .int .i64 0] := hz
  replace hB := Below.via (w := w) (by have hs_ := hB.size; repeat (first | with_reducible exact hB | with_reducible (refine Below.setCell ?_ (by simp <;> omega) _) | with_reducible (refine Below.alloc ?_ (by first | exact hs_ | (simp <;> omega)) _) | with_reducible (refine Below.drew ?_))) bB
  clear z1 z2 z3 z4 z5 z6 z7
  clear bB
  rcases hq with ⟨h1, rfl⟩ | ⟨x, f, s, h1, rfl⟩
  · have H1 := Lib.hid h1
    clear h1
    have z8 : w1.cell? ⟨w.heap.size, 0, none⟩ = some (.int .u8 0) := (hz.cell 0).trans rfl
    have z9 := hz.frozen 0
    have z10 : w1.cell? ⟨w.heap.size, 1, none⟩ = some (.int .i64 0) := (hz.cell 1).trans rfl
    have z11 := hz.frozen 1
    have z12 : w1.cell? ⟨w.heap.size, 2, none⟩ = some (.int .i64 0) := (hz.cell 2).trans rfl
    have z13 := hz.frozen 2
    have z14 := hz.lt
    go_wp2_with fail
    refine ret_c1 rfl enT27 rfl (by repeat (first | with_reducible exact hz | with_reducible (apply Blk.set_) | with_reducible (apply Blk.far; case hp => (simp <;> omega)) | with_reducible (apply Blk.alloc) | with_reducible (apply Blk.drew))) (by rfl) ?_
    exact ⟨.inl ⟨H1.out, rfl⟩, (by have hs_ := hB.size; repeat (first | with_reducible exact hB | with_reducible (refine Below.setCell ?_ (by simp <;> omega) _) | with_reducible (refine Below.alloc ?_ (by first | exact hs_ | (simp <;> omega)) _) | with_reducible (refine Below.drew ?_)))⟩
  · have H1 := Lib.hid h1
    clear h1
    have z8 : w1.cell? ⟨w.heap.size, 0, none⟩ = some (.int .u8 0) := (hz.cell 0).trans rfl
    have z9 := hz.frozen 0
    have z10 : w1.cell? ⟨w.heap.size, 1, none⟩ = some (.int .i64 0) := (hz.cell 1).trans rfl
    have z11 := hz.frozen 1
    have z12 : w1.cell? ⟨w.heap.size, 2, none⟩ = some (.int .i64 0) := (hz.cell 2).trans rfl
    have z13 := hz.frozen 2
    have z14 := hz.lt
    go_wp2_with fail
    refine ret_c1 rfl enT27 rfl (by repeat (first | with_reducible exact hz | with_reducible (apply Blk.set_) | with_reducible (apply Blk.far; case hp => (simp <;> omega)) | with_reducible (apply Blk.alloc) | with_reducible (apply Blk.drew))) (by rfl) ?_
    exact ⟨.inr ⟨_, _, _, H1.out, rfl⟩, (by have hs_ := hB.size; repeat (first | with_reducible exact hB | with_reducible (refine Below.setCell ?_ (by simp <;> omega) _) | with_reducible (refine Below.alloc ?_ (by first | exact hs_ | (simp <;> omega)) _) | with_reducible (refine Below.drew ?_)))⟩
set_option maxRecDepth 100000 in
set_option maxHeartbeats 1600000 in
theorem readHeads_any (A : Option Addr) (n c : Nat) (l : List UInt8) (w : World) (hr : Rb w A n l) (hn : l.length ≤ 200000) :
    Calls Try.prog 44 #[.slice A n c] w fun e w' => RhP w l e w' := by
  have HR := Lib.hid hr
  clear hr
  go_enter Try.func44, Try.ntmps44
  go_wp2_with fail
  refine (read27h_any A n c l _ HR.out hn).mono ?_
  rintro e w1 ⟨hq, b⟩
  rcases hq with ⟨h1, rfl⟩ | ⟨L, A2, c2, h1, rfl, hL⟩
  · have H1 := Lib.hid h1
    clear h1
    go_wp2_with fail
    go_ret2
    exact ⟨.inl ⟨H1.out, rfl⟩, b⟩
  · have H1 := Lib.hid h1
    clear h1
    go_wp2_with fail
    go_ret2
    exact ⟨.inr ⟨_, _, _, H1.out, rfl, hL⟩, b⟩
set_option maxRecDepth 100000 in
set_option maxHeartbeats 1600000 in
theorem readChains_any (A : Option Addr) (n c : Nat) (l : List UInt8) (w : World) (hr : Rb w A n l) (hn : l.length ≤ 200000) :
    Calls Try.prog 46 #[.slice A n c] w fun e w' => RcP w l e w' := by
  have HR := Lib.hid hr
  clear hr
  go_enter Try.func46, Try.ntmps46
  go_wp2_with fail
  refine (read27c_any A n c l _ HR.out hn).mono ?_
  rintro e w1 ⟨hq, b⟩
  rcases hq with ⟨h1, rfl⟩ | ⟨L, A2, c2, h1, rfl, hL⟩
  · have H1 := Lib.hid h1
    clear h1
    go_wp2_with fail
    go_ret2
    exact ⟨.inl ⟨H1.out, rfl⟩, b⟩
  · have H1 := Lib.hid h1
    clear h1
    go_wp2_with fail
    go_ret2
    exact ⟨.inr ⟨_, _, _, H1.out, rfl, hL⟩, b⟩

end Go.Proofs.Ytldaijkcmnnjpaa
