/- The walk of OpsReads. -/
import Derived.Test.YtkhdeoihjnpnaaaOpsR4
import Derived.Test.YtkhdeoihjnpnaaaOps7
import Derived.Test.YtkhdeoihjnpnaaaWireNew
import Derived.BigQuiet
namespace Go.Proofs.Ytkhdeoihjnpnaaa
open Go.RowKit Wire
set_option linter.unusedVariables false

theorem tl_yesR (s : ByteArray) : (s.toList == s.toList) = true := by simp

set_option maxRecDepth 100000 in
set_option maxHeartbeats 3200000 in
theorem opsReads_walk (w : World) (A : Option Addr) (n c : Nat) (l : List UInt8) (a : Int) (hr : Rb w A n l) (hc : n ≤ c ∧ c ≤ 9223372036854775807) (ha : -9223372036854775808 ≤ a ∧ a ≤ 9223372036854775807) :
    Calls Try.prog 5 #[cur A n c a] w fun e w' => e = .returned (.bool true) ∧ Below w.heap.size w w' := by
  have HR := Lib.hid hr
  clear hr
  have hB : Below w.heap.size w (w.alloc (.cells #[.slice A n c, .int .i64 a] 39)) := (Below.alloc (Below.refl w.heap.size w) (by simp <;> omega) (.cells #[.slice A n c, .int .i64 a] 39))
  have hc := Blk.new w 39 #[.slice A n c, .int .i64 a]
  go_enter Try.func5, Try.ntmps5
  have z901 : (w.alloc (.cells #[.slice A n c, .int .i64 a] 39)).cell? ⟨w.heap.size, 0, none⟩ = some (.slice A n c) := (hc.cell 0).trans rfl
  have z902 := hc.frozen 0
  have z903 : (w.alloc (.cells #[.slice A n c, .int .i64 a] 39)).cell? ⟨w.heap.size, 1, none⟩ = some (.int .i64 a) := (hc.cell 1).trans rfl
  have z904 := hc.frozen 1
  have z905 := hc.lt
  by_cases hbig : 300 < n
  · have d0 : decide ((n : Int) > 300) = true := by simp; omega
    go_wp2_with fail
    go_ret
    exact ⟨rfl, (by have hs_ := hB.size; repeat (first | with_reducible exact hB | with_reducible (refine Below.setCell ?_ (by simp <;> omega) _) | with_reducible (refine Below.alloc ?_ (by first | exact hs_ | (simp <;> omega)) _) | with_reducible (refine Below.drew ?_)))⟩
  have d0 : decide ((n : Int) > 300) = false := by simp; omega
  have HD := fun W h => decode6_any A n c l a ha W h (by omega)
  have HF := fun W h => redecode6_any A n c l a ha W h (by omega)
  unfold DeP at HD HF
  generalize (dcD l a.toNat).2.2 = q at HD HF
  obtain ⟨op, hop⟩ : ∃ v, (l.getD a.toNat 0).toNat = v := ⟨_, rfl⟩
  rw [hop] at HD HF
  generalize padI (dcD l a.toNat).2.1 0 = x at HD HF
  generalize padI (dcD l a.toNat).2.1 1 = y at HD HF
  generalize padI (dcD l a.toNat).2.1 2 = z at HD HF
  generalize dcE l a = E at HD HF
  clear hop
  have cv1 := cvS6 c (HR.out.mv hB)
  go_wp2_with fail
  clear z901 z902 z903 z904 z905
  refine (HD _ (HR.out.mv (by have hs_ := hB.size; repeat (first | with_reducible exact hB | with_reducible (refine Below.setCell ?_ (by simp <;> omega) _) | with_reducible (refine Below.alloc ?_ (by first | exact hs_ | (simp <;> omega)) _) | with_reducible (refine Below.drew ?_))))).mono ?_
  rintro e w1 ⟨hde, bB⟩
  clear HD cv1
  replace hc := Blk.via0 (g := w.heap.size) (t := 39) bB (by repeat (first | with_reducible exact hc | with_reducible (apply Blk.set_) | with_reducible (apply Blk.far; case hp => (simp <;> omega)) | with_reducible (apply Blk.alloc) | with_reducible (apply Blk.drew)))
  replace hc : Blk w1 w.heap.size 39 #[.slice A n c, .int .i64 a] := hc
  replace hB := Below.via (w := w) (by have hs_ := hB.size; repeat (first | with_reducible exact hB | with_reducible (refine Below.setCell ?_ (by simp <;> omega) _) | with_reducible (refine Below.alloc ?_ (by first | exact hs_ | (simp <;> omega)) _) | with_reducible (refine Below.drew ?_))) bB
  clear bB
  rcases hde with ⟨h0, rfl⟩ | ⟨h0, rfl⟩
  · subst h0
    have z906 : w1.cell? ⟨w.heap.size, 0, none⟩ = some (.slice A n c) := (hc.cell 0).trans rfl
    have z907 := hc.frozen 0
    have z908 : w1.cell? ⟨w.heap.size, 1, none⟩ = some (.int .i64 a) := (hc.cell 1).trans rfl
    have z909 := hc.frozen 1
    have z910 := hc.lt
    go_wp2_with fail
    refine (HF _ (HR.out.mv (by have hs_ := hB.size; repeat (first | with_reducible exact hB | with_reducible (refine Below.setCell ?_ (by simp <;> omega) _) | with_reducible (refine Below.alloc ?_ (by first | exact hs_ | (simp <;> omega)) _) | with_reducible (refine Below.drew ?_))))).mono ?_
    rintro e w2 ⟨hde, bB⟩
    clear HF
    have o_hc_h4 : w.heap.size < w1.heap.size := (by omega)
    have ow_h4 : w.heap.size ≤ w1.heap.size := (by have := hB.size; omega)
    have o_hc_h5 : w.heap.size < (w1.heap.size + 1) := (by omega)
    have ow_h5 : w.heap.size ≤ (w1.heap.size + 1) := (by have := hB.size; omega)
    have o_h4_h5 : w1.heap.size < (w1.heap.size + 1) := (by omega)
    replace hc := Blk.via0 (g := w.heap.size) (t := 39) bB (by repeat (first | with_reducible exact hc | with_reducible (apply Blk.set_) | with_reducible (apply Blk.far; case hp => (simp <;> omega)) | with_reducible (apply Blk.alloc) | with_reducible (apply Blk.drew)))
    replace hc : Blk w2 w.heap.size 39 #[.slice A n c, .int .i64 a] := hc
    have h4 := Blk.via0 (g := w1.heap.size) (t := 39) bB (by repeat (first | with_reducible exact Blk.newAt (by simp) _ _ | with_reducible (apply Blk.set_) | with_reducible (apply Blk.far; case hp => (simp <;> omega)) | with_reducible (apply Blk.alloc) | with_reducible (apply Blk.drew)))
    replace h4 : Blk w2 w1.heap.size 39 #[.slice A n c, .int .i64 (q : Int)] := h4
    have h5 := Blk.via0 (g := (w1.heap.size + 1)) (t := 23) bB (by repeat (first | with_reducible exact Blk.newAt (by simp) _ _ | with_reducible (apply Blk.set_) | with_reducible (apply Blk.far; case hp => (simp <;> omega)) | with_reducible (apply Blk.alloc) | with_reducible (apply Blk.drew)))
    replace h5 : Blk w2 (w1.heap.size + 1) 23 #[.int .u8 (op : Int), .int .i64 x, .int .i64 y, .int .i64 z] := h5
    replace hB := Below.via (w := w) (by have hs_ := hB.size; repeat (first | with_reducible exact hB | with_reducible (refine Below.setCell ?_ (by simp <;> omega) _) | with_reducible (refine Below.alloc ?_ (by first | exact hs_ | (simp <;> omega)) _) | with_reducible (refine Below.drew ?_))) bB
    clear z906 z907 z908 z909 z910
    clear bB
    generalize (w1.heap.size + 1) = p5 at *
    generalize w1.heap.size = p4 at *
    rcases hde with ⟨_, rfl⟩ | ⟨h0, rfl⟩
    rotate_left
    · exact absurd rfl h0
    have z911 : w2.cell? ⟨w.heap.size, 0, none⟩ = some (.slice A n c) := (hc.cell 0).trans rfl
    have z912 := hc.frozen 0
    have z913 : w2.cell? ⟨w.heap.size, 1, none⟩ = some (.int .i64 a) := (hc.cell 1).trans rfl
    have z914 := hc.frozen 1
    have z915 : w2.cell? ⟨p4, 0, none⟩ = some (.slice A n c) := (h4.cell 0).trans rfl
    have z916 := h4.frozen 0
    have z917 : w2.cell? ⟨p4, 1, none⟩ = some (.int .i64 (q : Int)) := (h4.cell 1).trans rfl
    have z918 := h4.frozen 1
    have z919 : w2.cell? ⟨p5, 0, none⟩ = some (.int .u8 (op : Int)) := (h5.cell 0).trans rfl
    have z920 := h5.frozen 0
    have z921 : w2.cell? ⟨p5, 1, none⟩ = some (.int .i64 x) := (h5.cell 1).trans rfl
    have z922 := h5.frozen 1
    have z923 : w2.cell? ⟨p5, 2, none⟩ = some (.int .i64 y) := (h5.cell 2).trans rfl
    have z924 := h5.frozen 2
    have z925 : w2.cell? ⟨p5, 3, none⟩ = some (.int .i64 z) := (h5.cell 3).trans rfl
    have z926 := h5.frozen 3
    have z927 := hc.lt
    have z928 := h4.lt
    have z929 := h5.lt
    go_wp2_with fail
    refine (same_any A A n c n c l (q : Int) _ (HR.out.mv (by have hs_ := hB.size; repeat (first | with_reducible exact hB | with_reducible (refine Below.setCell ?_ (by simp <;> omega) _) | with_reducible (refine Below.alloc ?_ (by first | exact hs_ | (simp <;> omega)) _) | with_reducible (refine Below.drew ?_)))) (HR.out.mv (by have hs_ := hB.size; repeat (first | with_reducible exact hB | with_reducible (refine Below.setCell ?_ (by simp <;> omega) _) | with_reducible (refine Below.alloc ?_ (by first | exact hs_ | (simp <;> omega)) _) | with_reducible (refine Below.drew ?_))))).mono ?_
    rintro e w3 ⟨rfl, bB⟩
    have o_hc_h7 : w.heap.size < w2.heap.size := (by omega)
    have o_h4_h7 : p4 < w2.heap.size := (by omega)
    have o_h5_h7 : p5 < w2.heap.size := (by omega)
    have ow_h7 : w.heap.size ≤ w2.heap.size := (by have := hB.size; omega)
    have o_hc_h8 : w.heap.size < (w2.heap.size + 1) := (by omega)
    have o_h4_h8 : p4 < (w2.heap.size + 1) := (by omega)
    have o_h5_h8 : p5 < (w2.heap.size + 1) := (by omega)
    have ow_h8 : w.heap.size ≤ (w2.heap.size + 1) := (by have := hB.size; omega)
    have o_h7_h8 : w2.heap.size < (w2.heap.size + 1) := (by omega)
    replace hc := Blk.via0 (g := w.heap.size) (t := 39) bB (by repeat (first | with_reducible exact hc | with_reducible (apply Blk.set_) | with_reducible (apply Blk.far; case hp => (simp <;> omega)) | with_reducible (apply Blk.alloc) | with_reducible (apply Blk.drew)))
    replace hc : Blk w3 w.heap.size 39 #[.slice A n c, .int .i64 a] := hc
    replace h4 := Blk.via0 (g := p4) (t := 39) bB (by repeat (first | with_reducible exact h4 | with_reducible (apply Blk.set_) | with_reducible (apply Blk.far; case hp => (simp <;> omega)) | with_reducible (apply Blk.alloc) | with_reducible (apply Blk.drew)))
    replace h4 : Blk w3 p4 39 #[.slice A n c, .int .i64 (q : Int)] := h4
    replace h5 := Blk.via0 (g := p5) (t := 23) bB (by repeat (first | with_reducible exact h5 | with_reducible (apply Blk.set_) | with_reducible (apply Blk.far; case hp => (simp <;> omega)) | with_reducible (apply Blk.alloc) | with_reducible (apply Blk.drew)))
    replace h5 : Blk w3 p5 23 #[.int .u8 (op : Int), .int .i64 x, .int .i64 y, .int .i64 z] := h5
    have h7 := Blk.via0 (g := w2.heap.size) (t := 39) bB (by repeat (first | with_reducible exact Blk.newAt (by simp) _ _ | with_reducible (apply Blk.set_) | with_reducible (apply Blk.far; case hp => (simp <;> omega)) | with_reducible (apply Blk.alloc) | with_reducible (apply Blk.drew)))
    replace h7 : Blk w3 w2.heap.size 39 #[.slice A n c, .int .i64 (q : Int)] := h7
    have h8 := Blk.via0 (g := (w2.heap.size + 1)) (t := 23) bB (by repeat (first | with_reducible exact Blk.newAt (by simp) _ _ | with_reducible (apply Blk.set_) | with_reducible (apply Blk.far; case hp => (simp <;> omega)) | with_reducible (apply Blk.alloc) | with_reducible (apply Blk.drew)))
    replace h8 : Blk w3 (w2.heap.size + 1) 23 #[.int .u8 (op : Int), .int .i64 x, .int .i64 y, .int .i64 z] := h8
    replace hB := Below.via (w := w) (by have hs_ := hB.size; repeat (first | with_reducible exact hB | with_reducible (refine Below.setCell ?_ (by simp <;> omega) _) | with_reducible (refine Below.alloc ?_ (by first | exact hs_ | (simp <;> omega)) _) | with_reducible (refine Below.drew ?_))) bB
    clear z911 z912 z913 z914 z915 z916 z917 z918 z919 z920 z921 z922 z923 z924 z925 z926 z927 z928 z929
    clear bB
    generalize (w2.heap.size + 1) = p8 at *
    generalize w2.heap.size = p7 at *
    have cv1 := cvS6 c (HR.out.mv hB)
    have hs := tl_yesR ⟨l.toArray⟩
    have z930 : w3.cell? ⟨w.heap.size, 0, none⟩ = some (.slice A n c) := (hc.cell 0).trans rfl
    have z931 := hc.frozen 0
    have z932 : w3.cell? ⟨w.heap.size, 1, none⟩ = some (.int .i64 a) := (hc.cell 1).trans rfl
    have z933 := hc.frozen 1
    have z934 : w3.cell? ⟨p4, 0, none⟩ = some (.slice A n c) := (h4.cell 0).trans rfl
    have z935 := h4.frozen 0
    have z936 : w3.cell? ⟨p4, 1, none⟩ = some (.int .i64 (q : Int)) := (h4.cell 1).trans rfl
    have z937 := h4.frozen 1
    have z938 : w3.cell? ⟨p5, 0, none⟩ = some (.int .u8 (op : Int)) := (h5.cell 0).trans rfl
    have z939 := h5.frozen 0
    have z940 : w3.cell? ⟨p5, 1, none⟩ = some (.int .i64 x) := (h5.cell 1).trans rfl
    have z941 := h5.frozen 1
    have z942 : w3.cell? ⟨p5, 2, none⟩ = some (.int .i64 y) := (h5.cell 2).trans rfl
    have z943 := h5.frozen 2
    have z944 : w3.cell? ⟨p5, 3, none⟩ = some (.int .i64 z) := (h5.cell 3).trans rfl
    have z945 := h5.frozen 3
    have z946 : w3.cell? ⟨p7, 0, none⟩ = some (.slice A n c) := (h7.cell 0).trans rfl
    have z947 := h7.frozen 0
    have z948 : w3.cell? ⟨p7, 1, none⟩ = some (.int .i64 (q : Int)) := (h7.cell 1).trans rfl
    have z949 := h7.frozen 1
    have z950 : w3.cell? ⟨p8, 0, none⟩ = some (.int .u8 (op : Int)) := (h8.cell 0).trans rfl
    have z951 := h8.frozen 0
    have z952 : w3.cell? ⟨p8, 1, none⟩ = some (.int .i64 x) := (h8.cell 1).trans rfl
    have z953 := h8.frozen 1
    have z954 : w3.cell? ⟨p8, 2, none⟩ = some (.int .i64 y) := (h8.cell 2).trans rfl
    have z955 := h8.frozen 2
    have z956 : w3.cell? ⟨p8, 3, none⟩ = some (.int .i64 z) := (h8.cell 3).trans rfl
    have z957 := h8.frozen 3
    have z958 := hc.lt
    have z959 := h4.lt
    have z960 := h5.lt
    have z961 := h7.lt
    have z962 := h8.lt
    go_wp2_with fail
    go_ret
    exact ⟨rfl, (by have hs_ := hB.size; repeat (first | with_reducible exact hB | with_reducible (refine Below.setCell ?_ (by simp <;> omega) _) | with_reducible (refine Below.alloc ?_ (by first | exact hs_ | (simp <;> omega)) _) | with_reducible (refine Below.drew ?_)))⟩
  · have z906 : w1.cell? ⟨w.heap.size, 0, none⟩ = some (.slice A n c) := (hc.cell 0).trans rfl
    have z907 := hc.frozen 0
    have z908 : w1.cell? ⟨w.heap.size, 1, none⟩ = some (.int .i64 a) := (hc.cell 1).trans rfl
    have z909 := hc.frozen 1
    have z910 := hc.lt
    go_wp2_with fail
    refine (HF _ (HR.out.mv (by have hs_ := hB.size; repeat (first | with_reducible exact hB | with_reducible (refine Below.setCell ?_ (by simp <;> omega) _) | with_reducible (refine Below.alloc ?_ (by first | exact hs_ | (simp <;> omega)) _) | with_reducible (refine Below.drew ?_))))).mono ?_
    rintro e w2 ⟨hde, bB⟩
    clear HF
    have o_hc_h4 : w.heap.size < w1.heap.size := (by omega)
    have ow_h4 : w.heap.size ≤ w1.heap.size := (by have := hB.size; omega)
    have o_hc_h5 : w.heap.size < (w1.heap.size + 1) := (by omega)
    have ow_h5 : w.heap.size ≤ (w1.heap.size + 1) := (by have := hB.size; omega)
    have o_h4_h5 : w1.heap.size < (w1.heap.size + 1) := (by omega)
    replace hc := Blk.via0 (g := w.heap.size) (t := 39) bB (by repeat (first | with_reducible exact hc | with_reducible (apply Blk.set_) | with_reducible (apply Blk.far; case hp => (simp <;> omega)) | with_reducible (apply Blk.alloc) | with_reducible (apply Blk.drew)))
    replace hc : Blk w2 w.heap.size 39 #[.slice A n c, .int .i64 a] := hc
    have h4 := Blk.via0 (g := w1.heap.size) (t := 39) bB (by repeat (first | with_reducible exact Blk.newAt (by simp) _ _ | with_reducible (apply Blk.set_) | with_reducible (apply Blk.far; case hp => (simp <;> omega)) | with_reducible (apply Blk.alloc) | with_reducible (apply Blk.drew)))
    replace h4 : Blk w2 w1.heap.size 39 #[.slice none 0 0, .int .i64 0] := h4
    have h5 := Blk.via0 (g := (w1.heap.size + 1)) (t := 23) bB (by repeat (first | with_reducible exact Blk.newAt (by simp) _ _ | with_reducible (apply Blk.set_) | with_reducible (apply Blk.far; case hp => (simp <;> omega)) | with_reducible (apply Blk.alloc) | with_reducible (apply Blk.drew)))
    replace h5 : Blk w2 (w1.heap.size + 1) 23 #[.int .u8 0, .int .i64 0, .int .i64 0, .int .i64 0] := h5
    replace hB := Below.via (w := w) (by have hs_ := hB.size; repeat (first | with_reducible exact hB | with_reducible (refine Below.setCell ?_ (by simp <;> omega) _) | with_reducible (refine Below.alloc ?_ (by first | exact hs_ | (simp <;> omega)) _) | with_reducible (refine Below.drew ?_))) bB
    clear z906 z907 z908 z909 z910
    clear bB
    generalize (w1.heap.size + 1) = p5 at *
    generalize w1.heap.size = p4 at *
    rcases hde with ⟨h1, rfl⟩ | ⟨_, rfl⟩
    · exact absurd h1 h0
    clear h0
    have z911 : w2.cell? ⟨w.heap.size, 0, none⟩ = some (.slice A n c) := (hc.cell 0).trans rfl
    have z912 := hc.frozen 0
    have z913 : w2.cell? ⟨w.heap.size, 1, none⟩ = some (.int .i64 a) := (hc.cell 1).trans rfl
    have z914 := hc.frozen 1
    have z915 : w2.cell? ⟨p4, 0, none⟩ = some (.slice none 0 0) := (h4.cell 0).trans rfl
    have z916 := h4.frozen 0
    have z917 : w2.cell? ⟨p4, 1, none⟩ = some (.int .i64 0) := (h4.cell 1).trans rfl
    have z918 := h4.frozen 1
    have z919 : w2.cell? ⟨p5, 0, none⟩ = some (.int .u8 0) := (h5.cell 0).trans rfl
    have z920 := h5.frozen 0
    have z921 : w2.cell? ⟨p5, 1, none⟩ = some (.int .i64 0) := (h5.cell 1).trans rfl
    have z922 := h5.frozen 1
    have z923 : w2.cell? ⟨p5, 2, none⟩ = some (.int .i64 0) := (h5.cell 2).trans rfl
    have z924 := h5.frozen 2
    have z925 : w2.cell? ⟨p5, 3, none⟩ = some (.int .i64 0) := (h5.cell 3).trans rfl
    have z926 := h5.frozen 3
    have z927 := hc.lt
    have z928 := h4.lt
    have z929 := h5.lt
    go_wp2_with fail
    refine (same_any none none 0 0 0 0 [] 0 _ Reads.none_ Reads.none_).mono ?_
    rintro e w3 ⟨rfl, bB⟩
    have o_hc_h7 : w.heap.size < w2.heap.size := (by omega)
    have o_h4_h7 : p4 < w2.heap.size := (by omega)
    have o_h5_h7 : p5 < w2.heap.size := (by omega)
    have ow_h7 : w.heap.size ≤ w2.heap.size := (by have := hB.size; omega)
    have o_hc_h8 : w.heap.size < (w2.heap.size + 1) := (by omega)
    have o_h4_h8 : p4 < (w2.heap.size + 1) := (by omega)
    have o_h5_h8 : p5 < (w2.heap.size + 1) := (by omega)
    have ow_h8 : w.heap.size ≤ (w2.heap.size + 1) := (by have := hB.size; omega)
    have o_h7_h8 : w2.heap.size < (w2.heap.size + 1) := (by omega)
    replace hc := Blk.via0 (g := w.heap.size) (t := 39) bB (by repeat (first | with_reducible exact hc | with_reducible (apply Blk.set_) | with_reducible (apply Blk.far; case hp => (simp <;> omega)) | with_reducible (apply Blk.alloc) | with_reducible (apply Blk.drew)))
    replace hc : Blk w3 w.heap.size 39 #[.slice A n c, .int .i64 a] := hc
    replace h4 := Blk.via0 (g := p4) (t := 39) bB (by repeat (first | with_reducible exact h4 | with_reducible (apply Blk.set_) | with_reducible (apply Blk.far; case hp => (simp <;> omega)) | with_reducible (apply Blk.alloc) | with_reducible (apply Blk.drew)))
    replace h4 : Blk w3 p4 39 #[.slice none 0 0, .int .i64 0] := h4
    replace h5 := Blk.via0 (g := p5) (t := 23) bB (by repeat (first | with_reducible exact h5 | with_reducible (apply Blk.set_) | with_reducible (apply Blk.far; case hp => (simp <;> omega)) | with_reducible (apply Blk.alloc) | with_reducible (apply Blk.drew)))
    replace h5 : Blk w3 p5 23 #[.int .u8 0, .int .i64 0, .int .i64 0, .int .i64 0] := h5
    have h7 := Blk.via0 (g := w2.heap.size) (t := 39) bB (by repeat (first | with_reducible exact Blk.newAt (by simp) _ _ | with_reducible (apply Blk.set_) | with_reducible (apply Blk.far; case hp => (simp <;> omega)) | with_reducible (apply Blk.alloc) | with_reducible (apply Blk.drew)))
    replace h7 : Blk w3 w2.heap.size 39 #[.slice none 0 0, .int .i64 0] := h7
    have h8 := Blk.via0 (g := (w2.heap.size + 1)) (t := 23) bB (by repeat (first | with_reducible exact Blk.newAt (by simp) _ _ | with_reducible (apply Blk.set_) | with_reducible (apply Blk.far; case hp => (simp <;> omega)) | with_reducible (apply Blk.alloc) | with_reducible (apply Blk.drew)))
    replace h8 : Blk w3 (w2.heap.size + 1) 23 #[.int .u8 0, .int .i64 0, .int .i64 0, .int .i64 0] := h8
    replace hB := Below.via (w := w) (by have hs_ := hB.size; repeat (first | with_reducible exact hB | with_reducible (refine Below.setCell ?_ (by simp <;> omega) _) | with_reducible (refine Below.alloc ?_ (by first | exact hs_ | (simp <;> omega)) _) | with_reducible (refine Below.drew ?_))) bB
    clear z911 z912 z913 z914 z915 z916 z917 z918 z919 z920 z921 z922 z923 z924 z925 z926 z927 z928 z929
    clear bB
    generalize (w2.heap.size + 1) = p8 at *
    generalize w2.heap.size = p7 at *
    have cv1 := cvS6 c (HR.out.mv hB)
    have hs := tl_yesR ⟨l.toArray⟩
    have z930 : w3.cell? ⟨w.heap.size, 0, none⟩ = some (.slice A n c) := (hc.cell 0).trans rfl
    have z931 := hc.frozen 0
    have z932 : w3.cell? ⟨w.heap.size, 1, none⟩ = some (.int .i64 a) := (hc.cell 1).trans rfl
    have z933 := hc.frozen 1
    have z934 : w3.cell? ⟨p4, 0, none⟩ = some (.slice none 0 0) := (h4.cell 0).trans rfl
    have z935 := h4.frozen 0
    have z936 : w3.cell? ⟨p4, 1, none⟩ = some (.int .i64 0) := (h4.cell 1).trans rfl
    have z937 := h4.frozen 1
    have z938 : w3.cell? ⟨p5, 0, none⟩ = some (.int .u8 0) := (h5.cell 0).trans rfl
    have z939 := h5.frozen 0
    have z940 : w3.cell? ⟨p5, 1, none⟩ = some (.int .i64 0) := (h5.cell 1).trans rfl
    have z941 := h5.frozen 1
    have z942 : w3.cell? ⟨p5, 2, none⟩ = some (.int .i64 0) := (h5.cell 2).trans rfl
    have z943 := h5.frozen 2
    have z944 : w3.cell? ⟨p5, 3, none⟩ = some (.int .i64 0) := (h5.cell 3).trans rfl
    have z945 := h5.frozen 3
    have z946 : w3.cell? ⟨p7, 0, none⟩ = some (.slice none 0 0) := (h7.cell 0).trans rfl
    have z947 := h7.frozen 0
    have z948 : w3.cell? ⟨p7, 1, none⟩ = some (.int .i64 0) := (h7.cell 1).trans rfl
    have z949 := h7.frozen 1
    have z950 : w3.cell? ⟨p8, 0, none⟩ = some (.int .u8 0) := (h8.cell 0).trans rfl
    have z951 := h8.frozen 0
    have z952 : w3.cell? ⟨p8, 1, none⟩ = some (.int .i64 0) := (h8.cell 1).trans rfl
    have z953 := h8.frozen 1
    have z954 : w3.cell? ⟨p8, 2, none⟩ = some (.int .i64 0) := (h8.cell 2).trans rfl
    have z955 := h8.frozen 2
    have z956 : w3.cell? ⟨p8, 3, none⟩ = some (.int .i64 0) := (h8.cell 3).trans rfl
    have z957 := h8.frozen 3
    have z958 := hc.lt
    have z959 := h4.lt
    have z960 := h5.lt
    have z961 := h7.lt
    have z962 := h8.lt
    go_wp2_with fail
    go_ret
    exact ⟨rfl, (by have hs_ := hB.size; repeat (first | with_reducible exact hB | with_reducible (refine Below.setCell ?_ (by simp <;> omega) _) | with_reducible (refine Below.alloc ?_ (by first | exact hs_ | (simp <;> omega)) _) | with_reducible (refine Below.drew ?_)))⟩

end Go.Proofs.Ytkhdeoihjnpnaaa
