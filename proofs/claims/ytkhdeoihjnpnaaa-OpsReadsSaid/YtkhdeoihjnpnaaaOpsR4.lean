/- The contract of the reference's Decode: it is Decode's own. It states its conditions. -/
import Derived.Test.YtkhdeoihjnpnaaaOpsR3
import Derived.Test.YtkhdeoihjnpnaaaOps10
import Derived.BigQuiet
namespace Go.Proofs.Ytkhdeoihjnpnaaa
open Go.RowKit Wire
set_option linter.unusedVariables false

theorem rr_dep {w : World} {A : Option Addr} {n c : Nat} {l : List UInt8} {k : Nat} {e : Ending} {w' : World} (h : RrP w A n c l k e w') (hl : l.length = n) (hn : n ≤ 200000) (hk : k ≤ n) : DeP w A n c l (k : Int) e w' := by
  obtain ⟨h, b⟩ := h
  obtain ⟨d1, d2⟩ := dec_same (l := l) (a := k) (by omega) (by omega)
  refine ⟨?_, b⟩
  rw [d1, show ((k : Int)).toNat = k from by simp]
  rcases h with ⟨h0, x, y, z, h3, rfl⟩ | ⟨hne, rfl⟩
  · obtain ⟨e1, e2⟩ := d2 h0
    rw [h3] at e2
    injection e2 with q1 q2
    injection q2 with q2 q3
    injection q3 with q3 q4
    refine .inl ⟨h0, ?_⟩
    rw [e1, q1, q2, q3]
  · exact .inr ⟨hne, rfl⟩

set_option maxRecDepth 100000 in
set_option maxHeartbeats 3200000 in
theorem redecode6_any (A : Option Addr) (n c : Nat) (l : List UInt8) (a : Int) (ha : -9223372036854775808 ≤ a ∧ a ≤ 9223372036854775807) (w : World) (hr : Rb w A n l) (hnc : n ≤ c ∧ n ≤ 9223372036854775807) :
    Calls Try.prog 16 #[cur A n c a] w fun e w' => DeP w A n c l a e w' := by
  have HR := Lib.hid hr
  have HL := Lib.hid hr.len8
  clear hr
  have hB : Below w.heap.size w (((w.alloc (.cells #[.slice A n c, .int .i64 a] 39)).alloc (.cells #[.slice none 0 0, .int .i64 0] 39)).alloc (.cells #[.int .u8 0, .int .i64 0, .int .i64 0, .int .i64 0] 23)) := (Below.alloc (Below.alloc (Below.alloc (Below.refl w.heap.size w) (by simp <;> omega) (.cells #[.slice A n c, .int .i64 a] 39)) (by simp <;> omega) (.cells #[.slice none 0 0, .int .i64 0] 39)) (by simp <;> omega) (.cells #[.int .u8 0, .int .i64 0, .int .i64 0, .int .i64 0] 23))
  have hc := Blk.new w 39 #[.slice A n c, .int .i64 a]
  replace hc := hc.alloc (.cells #[.slice none 0 0, .int .i64 0] 39)
  replace hc := hc.alloc (.cells #[.int .u8 0, .int .i64 0, .int .i64 0, .int .i64 0] 23)
  have h2 := Blk.new (w.alloc (.cells #[.slice A n c, .int .i64 a] 39)) 39 #[.slice none 0 0, .int .i64 0]
  rw [show (w.alloc (.cells #[.slice A n c, .int .i64 a] 39)).heap.size = w.heap.size + 1 from by simp] at h2
  replace h2 := h2.alloc (.cells #[.int .u8 0, .int .i64 0, .int .i64 0, .int .i64 0] 23)
  have h3 := Blk.new ((w.alloc (.cells #[.slice A n c, .int .i64 a] 39)).alloc (.cells #[.slice none 0 0, .int .i64 0] 39)) 23 #[.int .u8 0, .int .i64 0, .int .i64 0, .int .i64 0]
  rw [show ((w.alloc (.cells #[.slice A n c, .int .i64 a] 39)).alloc (.cells #[.slice none 0 0, .int .i64 0] 39)).heap.size = w.heap.size + 2 from by simp] at h3
  go_enter Try.func16, Try.ntmps16
  have z901 : (((w.alloc (.cells #[.slice A n c, .int .i64 a] 39)).alloc (.cells #[.slice none 0 0, .int .i64 0] 39)).alloc (.cells #[.int .u8 0, .int .i64 0, .int .i64 0, .int .i64 0] 23)).cell? ⟨w.heap.size, 0, none⟩ = some (.slice A n c) := (hc.cell 0).trans rfl
  have z902 := hc.frozen 0
  have z903 : (((w.alloc (.cells #[.slice A n c, .int .i64 a] 39)).alloc (.cells #[.slice none 0 0, .int .i64 0] 39)).alloc (.cells #[.int .u8 0, .int .i64 0, .int .i64 0, .int .i64 0] 23)).cell? ⟨w.heap.size, 1, none⟩ = some (.int .i64 a) := (hc.cell 1).trans rfl
  have z904 := hc.frozen 1
  have z905 := hc.lt
  have z906 := h2.lt
  have z907 := h3.lt
  go_wp2_with fail
  refine (recheck_any A n c a _).mono ?_
  rintro e w1 ⟨rfl, bB⟩
  replace hc := Blk.via0 (g := w.heap.size) (t := 39) bB (by repeat (first | with_reducible exact hc | with_reducible (apply Blk.set_) | with_reducible (apply Blk.far; case hp => (simp <;> omega)) | with_reducible (apply Blk.alloc) | with_reducible (apply Blk.drew)))
  replace hc : Blk w1 w.heap.size 39 #[.slice A n c, .int .i64 a] := hc
  replace h2 := Blk.via0 (g := (w.heap.size + 1)) (t := 39) bB (by repeat (first | with_reducible exact h2 | with_reducible (apply Blk.set_) | with_reducible (apply Blk.far; case hp => (simp <;> omega)) | with_reducible (apply Blk.alloc) | with_reducible (apply Blk.drew)))
  replace h2 : Blk w1 (w.heap.size + 1) 39 #[.slice none 0 0, .int .i64 0] := h2
  replace h3 := Blk.via0 (g := (w.heap.size + 2)) (t := 23) bB (by repeat (first | with_reducible exact h3 | with_reducible (apply Blk.set_) | with_reducible (apply Blk.far; case hp => (simp <;> omega)) | with_reducible (apply Blk.alloc) | with_reducible (apply Blk.drew)))
  replace h3 : Blk w1 (w.heap.size + 2) 23 #[.int .u8 0, .int .i64 0, .int .i64 0, .int .i64 0] := h3
  replace hB := Below.via (w := w) (by have hs_ := hB.size; repeat (first | with_reducible exact hB | with_reducible (refine Below.setCell ?_ (by simp <;> omega) _) | with_reducible (refine Below.alloc ?_ (by first | exact hs_ | (simp <;> omega)) _) | with_reducible (refine Below.drew ?_))) bB
  clear z901 z902 z903 z904 z905 z906 z907
  clear bB
  by_cases hck : ckB n a = true
  · obtain ⟨hn2, ha0, han⟩ := ck_ok hck
    obtain ⟨p, rfl⟩ := Int.eq_ofNat_of_zero_le ha0
    rw [show ckE n (p : Int) = 0 from by simp [ckE, hck]]
    clear hck ha0
    have hpn : p ≤ n := by omega
    have z908 : w1.cell? ⟨w.heap.size, 0, none⟩ = some (.slice A n c) := (hc.cell 0).trans rfl
    have z909 := hc.frozen 0
    have z910 : w1.cell? ⟨w.heap.size, 1, none⟩ = some (.int .i64 (p : Int)) := (hc.cell 1).trans rfl
    have z911 := hc.frozen 1
    have z912 := hc.lt
    have z913 := h2.lt
    have z914 := h3.lt
    go_wp2_with fail
    have HD := (rread6_any A n c l p w1 (HR.out.mv (by have hs_ := hB.size; repeat (first | with_reducible exact hB | with_reducible (refine Below.setCell ?_ (by simp <;> omega) _) | with_reducible (refine Below.alloc ?_ (by first | exact hs_ | (simp <;> omega)) _) | with_reducible (refine Below.drew ?_)))) ⟨hnc.1, hn2⟩ hpn).mono fun e w' h => rr_dep h HL.out hn2 hpn
    unfold DeP at HD
    refine HD.mono ?_
    rintro e w2 ⟨hde, bB⟩
    clear HD
    replace hc := Blk.via0 (g := w.heap.size) (t := 39) bB (by repeat (first | with_reducible exact hc | with_reducible (apply Blk.set_) | with_reducible (apply Blk.far; case hp => (simp <;> omega)) | with_reducible (apply Blk.alloc) | with_reducible (apply Blk.drew)))
    replace hc : Blk w2 w.heap.size 39 #[.slice A n c, .int .i64 (p : Int)] := hc
    replace h2 := Blk.via0 (g := (w.heap.size + 1)) (t := 39) bB (by repeat (first | with_reducible exact h2 | with_reducible (apply Blk.set_) | with_reducible (apply Blk.far; case hp => (simp <;> omega)) | with_reducible (apply Blk.alloc) | with_reducible (apply Blk.drew)))
    replace h2 : Blk w2 (w.heap.size + 1) 39 #[.slice none 0 0, .int .i64 0] := h2
    replace h3 := Blk.via0 (g := (w.heap.size + 2)) (t := 23) bB (by repeat (first | with_reducible exact h3 | with_reducible (apply Blk.set_) | with_reducible (apply Blk.far; case hp => (simp <;> omega)) | with_reducible (apply Blk.alloc) | with_reducible (apply Blk.drew)))
    replace h3 : Blk w2 (w.heap.size + 2) 23 #[.int .u8 0, .int .i64 0, .int .i64 0, .int .i64 0] := h3
    replace hB := Below.via (w := w) (by have hs_ := hB.size; repeat (first | with_reducible exact hB | with_reducible (refine Below.setCell ?_ (by simp <;> omega) _) | with_reducible (refine Below.alloc ?_ (by first | exact hs_ | (simp <;> omega)) _) | with_reducible (refine Below.drew ?_))) bB
    clear z908 z909 z910 z911 z912 z913 z914
    clear bB
    rcases hde with ⟨h0, rfl⟩ | ⟨h0, rfl⟩
    · have H0 := Lib.hid h0
      clear h0
      have z915 : w2.cell? ⟨(w.heap.size + 1), 0, none⟩ = some (.slice none 0 0) := (h2.cell 0).trans rfl
      have z916 := h2.frozen 0
      have z917 : w2.cell? ⟨(w.heap.size + 1), 1, none⟩ = some (.int .i64 0) := (h2.cell 1).trans rfl
      have z918 := h2.frozen 1
      have z919 : w2.cell? ⟨(w.heap.size + 2), 0, none⟩ = some (.int .u8 0) := (h3.cell 0).trans rfl
      have z920 := h3.frozen 0
      have z921 : w2.cell? ⟨(w.heap.size + 2), 1, none⟩ = some (.int .i64 0) := (h3.cell 1).trans rfl
      have z922 := h3.frozen 1
      have z923 : w2.cell? ⟨(w.heap.size + 2), 2, none⟩ = some (.int .i64 0) := (h3.cell 2).trans rfl
      have z924 := h3.frozen 2
      have z925 : w2.cell? ⟨(w.heap.size + 2), 3, none⟩ = some (.int .i64 0) := (h3.cell 3).trans rfl
      have z926 := h3.frozen 3
      have z927 := hc.lt
      have z928 := h2.lt
      have z929 := h3.lt
      go_wp2_with fail
      refine ret_cc1 rfl curT insT rfl (by repeat (first | with_reducible exact h2 | with_reducible (apply Blk.set_) | with_reducible (apply Blk.far; case hp => (simp <;> omega)) | with_reducible (apply Blk.alloc) | with_reducible (apply Blk.drew))) (by rfl) rfl (by repeat (first | with_reducible exact h3 | with_reducible (apply Blk.set_) | with_reducible (apply Blk.far; case hp => (simp <;> omega)) | with_reducible (apply Blk.alloc) | with_reducible (apply Blk.drew))) (by rfl) ?_
      exact ⟨.inl ⟨H0.out, rfl⟩, (by have hs_ := hB.size; repeat (first | with_reducible exact hB | with_reducible (refine Below.setCell ?_ (by simp <;> omega) _) | with_reducible (refine Below.alloc ?_ (by first | exact hs_ | (simp <;> omega)) _) | with_reducible (refine Below.drew ?_)))⟩
    · have H0 := Lib.hid h0
      clear h0
      have z915 : w2.cell? ⟨(w.heap.size + 1), 0, none⟩ = some (.slice none 0 0) := (h2.cell 0).trans rfl
      have z916 := h2.frozen 0
      have z917 : w2.cell? ⟨(w.heap.size + 1), 1, none⟩ = some (.int .i64 0) := (h2.cell 1).trans rfl
      have z918 := h2.frozen 1
      have z919 : w2.cell? ⟨(w.heap.size + 2), 0, none⟩ = some (.int .u8 0) := (h3.cell 0).trans rfl
      have z920 := h3.frozen 0
      have z921 : w2.cell? ⟨(w.heap.size + 2), 1, none⟩ = some (.int .i64 0) := (h3.cell 1).trans rfl
      have z922 := h3.frozen 1
      have z923 : w2.cell? ⟨(w.heap.size + 2), 2, none⟩ = some (.int .i64 0) := (h3.cell 2).trans rfl
      have z924 := h3.frozen 2
      have z925 : w2.cell? ⟨(w.heap.size + 2), 3, none⟩ = some (.int .i64 0) := (h3.cell 3).trans rfl
      have z926 := h3.frozen 3
      have z927 := hc.lt
      have z928 := h2.lt
      have z929 := h3.lt
      go_wp2_with fail
      refine ret_cc1 rfl curT insT rfl (by repeat (first | with_reducible exact h2 | with_reducible (apply Blk.set_) | with_reducible (apply Blk.far; case hp => (simp <;> omega)) | with_reducible (apply Blk.alloc) | with_reducible (apply Blk.drew))) (by rfl) rfl (by repeat (first | with_reducible exact h3 | with_reducible (apply Blk.set_) | with_reducible (apply Blk.far; case hp => (simp <;> omega)) | with_reducible (apply Blk.alloc) | with_reducible (apply Blk.drew))) (by rfl) ?_
      exact ⟨.inr ⟨H0.out, rfl⟩, (by have hs_ := hB.size; repeat (first | with_reducible exact hB | with_reducible (refine Below.setCell ?_ (by simp <;> omega) _) | with_reducible (refine Below.alloc ?_ (by first | exact hs_ | (simp <;> omega)) _) | with_reducible (refine Below.drew ?_)))⟩
  have HE := Lib.hid (show dcE l a = 8 from by unfold dcE; rw [if_pos (by rw [HL.out]; simpa using hck)])
  have HN0 := Lib.hid (show (8 : Int) ≠ 0 by decide)
  rw [show ckE n a = 8 from by simp [ckE, hck]]
  clear hck
  have z908 : w1.cell? ⟨(w.heap.size + 1), 0, none⟩ = some (.slice none 0 0) := (h2.cell 0).trans rfl
  have z909 := h2.frozen 0
  have z910 : w1.cell? ⟨(w.heap.size + 1), 1, none⟩ = some (.int .i64 0) := (h2.cell 1).trans rfl
  have z911 := h2.frozen 1
  have z912 : w1.cell? ⟨(w.heap.size + 2), 0, none⟩ = some (.int .u8 0) := (h3.cell 0).trans rfl
  have z913 := h3.frozen 0
  have z914 : w1.cell? ⟨(w.heap.size + 2), 1, none⟩ = some (.int .i64 0) := (h3.cell 1).trans rfl
  have z915 := h3.frozen 1
  have z916 : w1.cell? ⟨(w.heap.size + 2), 2, none⟩ = some (.int .i64 0) := (h3.cell 2).trans rfl
  have z917 := h3.frozen 2
  have z918 : w1.cell? ⟨(w.heap.size + 2), 3, none⟩ = some (.int .i64 0) := (h3.cell 3).trans rfl
  have z919 := h3.frozen 3
  have z920 := hc.lt
  have z921 := h2.lt
  have z922 := h3.lt
  go_wp2_with fail
  refine ret_cc1 rfl curT insT rfl (by repeat (first | with_reducible exact h2 | with_reducible (apply Blk.set_) | with_reducible (apply Blk.far; case hp => (simp <;> omega)) | with_reducible (apply Blk.alloc) | with_reducible (apply Blk.drew))) (by rfl) rfl (by repeat (first | with_reducible exact h3 | with_reducible (apply Blk.set_) | with_reducible (apply Blk.far; case hp => (simp <;> omega)) | with_reducible (apply Blk.alloc) | with_reducible (apply Blk.drew))) (by rfl) ?_
  exact ⟨.inr ⟨by rw [HE.out]; exact HN0.out, by rw [HE.out]; rfl⟩, (by have hs_ := hB.size; repeat (first | with_reducible exact hB | with_reducible (refine Below.setCell ?_ (by simp <;> omega) _) | with_reducible (refine Below.alloc ?_ (by first | exact hs_ | (simp <;> omega)) _) | with_reducible (refine Below.drew ?_)))⟩

end Go.Proofs.Ytkhdeoihjnpnaaa
