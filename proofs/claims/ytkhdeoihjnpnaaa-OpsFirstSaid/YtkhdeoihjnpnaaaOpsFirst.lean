/- The walk of OpsFirst. -/
import Derived.Test.YtkhdeoihjnpnaaaOpsOneA
import Derived.Test.YtkhdeoihjnpnaaaOpsLaw2
import Derived.Test.YtkhdeoihjnpnaaaWireBegins
import Derived.BigQuiet
namespace Go.Proofs.Ytkhdeoihjnpnaaa
open Go.RowKit Wire
set_option linter.unusedVariables false

set_option maxRecDepth 100000 in
set_option maxHeartbeats 6400000 in
theorem opsFirst_walk (w : World) (op : Nat) (x y z : Int) (hop : op < 256) (hx : (-9223372036854775808 ≤ x ∧ x ≤ 9223372036854775807)) (hy : (-9223372036854775808 ≤ y ∧ y ≤ 9223372036854775807)) (hz : (-9223372036854775808 ≤ z ∧ z ≤ 9223372036854775807)) (op2 : Nat) (x2 y2 z2 : Int) (hop2 : op2 < 256) (hx2 : (-9223372036854775808 ≤ x2 ∧ x2 ≤ 9223372036854775807)) (hy2 : (-9223372036854775808 ≤ y2 ∧ y2 ≤ 9223372036854775807)) (hz2 : (-9223372036854775808 ≤ z2 ∧ z2 ≤ 9223372036854775807)) (t : Int) (ht : (-9223372036854775808 ≤ t ∧ t ≤ 9223372036854775807)) :
    Calls Try.prog 7 #[insV op x y z, insV op2 x2 y2 z2, .int .i64 t] w fun e w' => e = .returned (.bool true) ∧ Below w.heap.size w w' := by
  have hB : Below w.heap.size w ((w.alloc (.cells #[.int .u8 (op : Int), .int .i64 x, .int .i64 y, .int .i64 z] 23)).alloc (.cells #[.int .u8 (op2 : Int), .int .i64 x2, .int .i64 y2, .int .i64 z2] 23)) := (Below.alloc (Below.alloc (Below.refl w.heap.size w) (by simp <;> omega) (.cells #[.int .u8 (op : Int), .int .i64 x, .int .i64 y, .int .i64 z] 23)) (by simp <;> omega) (.cells #[.int .u8 (op2 : Int), .int .i64 x2, .int .i64 y2, .int .i64 z2] 23))
  have hq := Blk.new w 23 #[.int .u8 (op : Int), .int .i64 x, .int .i64 y, .int .i64 z]
  replace hq := hq.alloc (.cells #[.int .u8 (op2 : Int), .int .i64 x2, .int .i64 y2, .int .i64 z2] 23)
  have hr := Blk.new (w.alloc (.cells #[.int .u8 (op : Int), .int .i64 x, .int .i64 y, .int .i64 z] 23)) 23 #[.int .u8 (op2 : Int), .int .i64 x2, .int .i64 y2, .int .i64 z2]
  rw [show (w.alloc (.cells #[.int .u8 (op : Int), .int .i64 x, .int .i64 y, .int .i64 z] 23)).heap.size = w.heap.size + 1 from by simp] at hr
  go_enter Try.func7, Try.ntmps7
  have z901 : ((w.alloc (.cells #[.int .u8 (op : Int), .int .i64 x, .int .i64 y, .int .i64 z] 23)).alloc (.cells #[.int .u8 (op2 : Int), .int .i64 x2, .int .i64 y2, .int .i64 z2] 23)).cell? ⟨w.heap.size, 0, none⟩ = some (.int .u8 (op : Int)) := (hq.cell 0).trans rfl
  have z902 := hq.frozen 0
  have z903 : ((w.alloc (.cells #[.int .u8 (op : Int), .int .i64 x, .int .i64 y, .int .i64 z] 23)).alloc (.cells #[.int .u8 (op2 : Int), .int .i64 x2, .int .i64 y2, .int .i64 z2] 23)).cell? ⟨w.heap.size, 1, none⟩ = some (.int .i64 x) := (hq.cell 1).trans rfl
  have z904 := hq.frozen 1
  have z905 : ((w.alloc (.cells #[.int .u8 (op : Int), .int .i64 x, .int .i64 y, .int .i64 z] 23)).alloc (.cells #[.int .u8 (op2 : Int), .int .i64 x2, .int .i64 y2, .int .i64 z2] 23)).cell? ⟨w.heap.size, 2, none⟩ = some (.int .i64 y) := (hq.cell 2).trans rfl
  have z906 := hq.frozen 2
  have z907 : ((w.alloc (.cells #[.int .u8 (op : Int), .int .i64 x, .int .i64 y, .int .i64 z] 23)).alloc (.cells #[.int .u8 (op2 : Int), .int .i64 x2, .int .i64 y2, .int .i64 z2] 23)).cell? ⟨w.heap.size, 3, none⟩ = some (.int .i64 z) := (hq.cell 3).trans rfl
  have z908 := hq.frozen 3
  have z909 : ((w.alloc (.cells #[.int .u8 (op : Int), .int .i64 x, .int .i64 y, .int .i64 z] 23)).alloc (.cells #[.int .u8 (op2 : Int), .int .i64 x2, .int .i64 y2, .int .i64 z2] 23)).cell? ⟨(w.heap.size + 1), 0, none⟩ = some (.int .u8 (op2 : Int)) := (hr.cell 0).trans rfl
  have z910 := hr.frozen 0
  have z911 : ((w.alloc (.cells #[.int .u8 (op : Int), .int .i64 x, .int .i64 y, .int .i64 z] 23)).alloc (.cells #[.int .u8 (op2 : Int), .int .i64 x2, .int .i64 y2, .int .i64 z2] 23)).cell? ⟨(w.heap.size + 1), 1, none⟩ = some (.int .i64 x2) := (hr.cell 1).trans rfl
  have z912 := hr.frozen 1
  have z913 : ((w.alloc (.cells #[.int .u8 (op : Int), .int .i64 x, .int .i64 y, .int .i64 z] 23)).alloc (.cells #[.int .u8 (op2 : Int), .int .i64 x2, .int .i64 y2, .int .i64 z2] 23)).cell? ⟨(w.heap.size + 1), 2, none⟩ = some (.int .i64 y2) := (hr.cell 2).trans rfl
  have z914 := hr.frozen 2
  have z915 : ((w.alloc (.cells #[.int .u8 (op : Int), .int .i64 x, .int .i64 y, .int .i64 z] 23)).alloc (.cells #[.int .u8 (op2 : Int), .int .i64 x2, .int .i64 y2, .int .i64 z2] 23)).cell? ⟨(w.heap.size + 1), 3, none⟩ = some (.int .i64 z2) := (hr.cell 3).trans rfl
  have z916 := hr.frozen 3
  have z917 := hq.lt
  have z918 := hr.lt
  go_wp2_with fail
  obtain ⟨E1, hE1⟩ : ∃ E, ckI op x y z = E := ⟨_, rfl⟩
  have HE1 := Lib.hid hE1
  have KE1 := ck_08' op x y z
  have HS := fun W => encode6_any op hop x y z hx hy hz W
  unfold EnP at HS
  rw [hE1] at HS KE1
  obtain ⟨EN1, hEN1⟩ : ∃ E, enI op x y z = E := ⟨_, rfl⟩
  have LEN1 := Lib.hid (enI_len op x y z)
  rw [hEN1] at HS LEN1
  have HEN1 := Lib.hid hEN1
  clear hE1 hEN1
  refine (HS _).mono ?_
  rintro e w1 ⟨A0, c0, rfl, o0, bB⟩
  have ne_o0_hq : (Value.slice A0 EN1.length c0).ownBlock ≠ some w.heap.size := own_not_lt o0 (by first | omega | (simp <;> omega))
  have ne_o0_hr : (Value.slice A0 EN1.length c0).ownBlock ≠ some (w.heap.size + 1) := own_not_lt o0 (by first | omega | (simp <;> omega))
  replace o0 := own_low o0 (show w.heap.size ≤ _ from by have hs_ := hB.size; simp <;> omega)
  replace hq := Blk.via0 (g := w.heap.size) (t := 23) bB (by repeat (first | with_reducible exact hq | with_reducible (apply Blk.set_) | with_reducible (apply Blk.far; case hp => (simp <;> omega)) | with_reducible (apply Blk.alloc) | with_reducible (apply Blk.drew)))
  replace hq : Blk w1 w.heap.size 23 #[.int .u8 (op : Int), .int .i64 x, .int .i64 y, .int .i64 z] := hq
  replace hr := Blk.via0 (g := (w.heap.size + 1)) (t := 23) bB (by repeat (first | with_reducible exact hr | with_reducible (apply Blk.set_) | with_reducible (apply Blk.far; case hp => (simp <;> omega)) | with_reducible (apply Blk.alloc) | with_reducible (apply Blk.drew)))
  replace hr : Blk w1 (w.heap.size + 1) 23 #[.int .u8 (op2 : Int), .int .i64 x2, .int .i64 y2, .int .i64 z2] := hr
  replace hB := Below.via (w := w) (by have hs_ := hB.size; repeat (first | with_reducible exact hB | with_reducible (refine Below.setCell ?_ (by simp <;> omega) _) | with_reducible (refine Below.alloc ?_ (by first | exact hs_ | (simp <;> omega)) _) | with_reducible (refine Below.drew ?_))) bB
  clear z901 z902 z903 z904 z905 z906 z907 z908 z909 z910 z911 z912 z913 z914 z915 z916 z917 z918
  clear bB
  clear HS
  have z919 : w1.cell? ⟨w.heap.size, 0, none⟩ = some (.int .u8 (op : Int)) := (hq.cell 0).trans rfl
  have z920 := hq.frozen 0
  have z921 : w1.cell? ⟨w.heap.size, 1, none⟩ = some (.int .i64 x) := (hq.cell 1).trans rfl
  have z922 := hq.frozen 1
  have z923 : w1.cell? ⟨w.heap.size, 2, none⟩ = some (.int .i64 y) := (hq.cell 2).trans rfl
  have z924 := hq.frozen 2
  have z925 : w1.cell? ⟨w.heap.size, 3, none⟩ = some (.int .i64 z) := (hq.cell 3).trans rfl
  have z926 := hq.frozen 3
  have z927 : w1.cell? ⟨(w.heap.size + 1), 0, none⟩ = some (.int .u8 (op2 : Int)) := (hr.cell 0).trans rfl
  have z928 := hr.frozen 0
  have z929 : w1.cell? ⟨(w.heap.size + 1), 1, none⟩ = some (.int .i64 x2) := (hr.cell 1).trans rfl
  have z930 := hr.frozen 1
  have z931 : w1.cell? ⟨(w.heap.size + 1), 2, none⟩ = some (.int .i64 y2) := (hr.cell 2).trans rfl
  have z932 := hr.frozen 2
  have z933 : w1.cell? ⟨(w.heap.size + 1), 3, none⟩ = some (.int .i64 z2) := (hr.cell 3).trans rfl
  have z934 := hr.frozen 3
  have z935 := hq.lt
  have z936 := hr.lt
  go_wp2_with fail
  obtain ⟨E2, hE2⟩ : ∃ E, ckI op2 x2 y2 z2 = E := ⟨_, rfl⟩
  have HE2 := Lib.hid hE2
  have KE2 := ck_08' op2 x2 y2 z2
  have HS := fun W => encode6_any op2 hop2 x2 y2 z2 hx2 hy2 hz2 W
  unfold EnP at HS
  rw [hE2] at HS KE2
  obtain ⟨EN2, hEN2⟩ : ∃ E, enI op2 x2 y2 z2 = E := ⟨_, rfl⟩
  have LEN2 := Lib.hid (enI_len op2 x2 y2 z2)
  rw [hEN2] at HS LEN2
  have HEN2 := Lib.hid hEN2
  clear hE2 hEN2
  refine (HS _).mono ?_
  rintro e w2 ⟨A1, c1, rfl, o1, bB⟩
  have ne_o1_hq : (Value.slice A1 EN2.length c1).ownBlock ≠ some w.heap.size := own_not_lt o1 (by first | omega | (simp <;> omega))
  have ne_o1_hr : (Value.slice A1 EN2.length c1).ownBlock ≠ some (w.heap.size + 1) := own_not_lt o1 (by first | omega | (simp <;> omega))
  replace o1 := own_low o1 (show w.heap.size ≤ _ from by have hs_ := hB.size; simp <;> omega)
  replace hq := Blk.via0 (g := w.heap.size) (t := 23) bB (by repeat (first | with_reducible exact hq | with_reducible (apply Blk.set_) | with_reducible (apply Blk.far; case hp => (simp <;> omega)) | with_reducible (apply Blk.alloc) | with_reducible (apply Blk.drew)))
  replace hq : Blk w2 w.heap.size 23 #[.int .u8 (op : Int), .int .i64 x, .int .i64 y, .int .i64 z] := hq
  replace hr := Blk.via0 (g := (w.heap.size + 1)) (t := 23) bB (by repeat (first | with_reducible exact hr | with_reducible (apply Blk.set_) | with_reducible (apply Blk.far; case hp => (simp <;> omega)) | with_reducible (apply Blk.alloc) | with_reducible (apply Blk.drew)))
  replace hr : Blk w2 (w.heap.size + 1) 23 #[.int .u8 (op2 : Int), .int .i64 x2, .int .i64 y2, .int .i64 z2] := hr
  replace o0 := own_call (by repeat (first | with_reducible exact o0 | (with_reducible apply own_set_; case hne => first | exact ne_o0_hq | exact ne_o0_hr) | with_reducible (apply own_alloc_) | with_reducible (apply own_drew_))) bB
  replace hB := Below.via (w := w) (by have hs_ := hB.size; repeat (first | with_reducible exact hB | with_reducible (refine Below.setCell ?_ (by simp <;> omega) _) | with_reducible (refine Below.alloc ?_ (by first | exact hs_ | (simp <;> omega)) _) | with_reducible (refine Below.drew ?_))) bB
  clear z919 z920 z921 z922 z923 z924 z925 z926 z927 z928 z929 z930 z931 z932 z933 z934 z935 z936
  clear bB
  clear HS
  have z937 : w2.cell? ⟨w.heap.size, 0, none⟩ = some (.int .u8 (op : Int)) := (hq.cell 0).trans rfl
  have z938 := hq.frozen 0
  have z939 : w2.cell? ⟨w.heap.size, 1, none⟩ = some (.int .i64 x) := (hq.cell 1).trans rfl
  have z940 := hq.frozen 1
  have z941 : w2.cell? ⟨w.heap.size, 2, none⟩ = some (.int .i64 y) := (hq.cell 2).trans rfl
  have z942 := hq.frozen 2
  have z943 : w2.cell? ⟨w.heap.size, 3, none⟩ = some (.int .i64 z) := (hq.cell 3).trans rfl
  have z944 := hq.frozen 3
  have z945 : w2.cell? ⟨(w.heap.size + 1), 0, none⟩ = some (.int .u8 (op2 : Int)) := (hr.cell 0).trans rfl
  have z946 := hr.frozen 0
  have z947 : w2.cell? ⟨(w.heap.size + 1), 1, none⟩ = some (.int .i64 x2) := (hr.cell 1).trans rfl
  have z948 := hr.frozen 1
  have z949 : w2.cell? ⟨(w.heap.size + 1), 2, none⟩ = some (.int .i64 y2) := (hr.cell 2).trans rfl
  have z950 := hr.frozen 2
  have z951 : w2.cell? ⟨(w.heap.size + 1), 3, none⟩ = some (.int .i64 z2) := (hr.cell 3).trans rfl
  have z952 := hr.frozen 3
  have z953 := hq.lt
  have z954 := hr.lt
  rcases KE1 with rfl | rfl
  rotate_left
  · clear KE2
    go_wp2_with fail
    refine (alive6_any _).mono ?_
    rintro e v1 ⟨rfl, bB⟩
    replace hq := Blk.via0 (g := w.heap.size) (t := 23) bB (by repeat (first | with_reducible exact hq | with_reducible (apply Blk.set_) | with_reducible (apply Blk.far; case hp => (simp <;> omega)) | with_reducible (apply Blk.alloc) | with_reducible (apply Blk.drew)))
    replace hq : Blk v1 w.heap.size 23 #[.int .u8 (op : Int), .int .i64 x, .int .i64 y, .int .i64 z] := hq
    replace hr := Blk.via0 (g := (w.heap.size + 1)) (t := 23) bB (by repeat (first | with_reducible exact hr | with_reducible (apply Blk.set_) | with_reducible (apply Blk.far; case hp => (simp <;> omega)) | with_reducible (apply Blk.alloc) | with_reducible (apply Blk.drew)))
    replace hr : Blk v1 (w.heap.size + 1) 23 #[.int .u8 (op2 : Int), .int .i64 x2, .int .i64 y2, .int .i64 z2] := hr
    replace o0 := own_call (by repeat (first | with_reducible exact o0 | (with_reducible apply own_set_; case hne => first | exact ne_o0_hq | exact ne_o0_hr) | with_reducible (apply own_alloc_) | with_reducible (apply own_drew_))) bB
    replace o1 := own_call (by repeat (first | with_reducible exact o1 | (with_reducible apply own_set_; case hne => first | exact ne_o1_hq | exact ne_o1_hr) | with_reducible (apply own_alloc_) | with_reducible (apply own_drew_))) bB
    replace hB := Below.via (w := w) (by have hs_ := hB.size; repeat (first | with_reducible exact hB | with_reducible (refine Below.setCell ?_ (by simp <;> omega) _) | with_reducible (refine Below.alloc ?_ (by first | exact hs_ | (simp <;> omega)) _) | with_reducible (refine Below.drew ?_))) bB
    clear z937 z938 z939 z940 z941 z942 z943 z944 z945 z946 z947 z948 z949 z950 z951 z952 z953 z954
    clear bB
    go_wp2_with fail
    go_ret
    exact ⟨rfl, (by have hs_ := hB.size; repeat (first | with_reducible exact hB | with_reducible (refine Below.setCell ?_ (by simp <;> omega) _) | with_reducible (refine Below.alloc ?_ (by first | exact hs_ | (simp <;> omega)) _) | with_reducible (refine Below.drew ?_)))⟩
  rcases KE2 with rfl | rfl
  rotate_left
  · go_wp2_with fail
    refine (alive6_any _).mono ?_
    rintro e v1 ⟨rfl, bB⟩
    replace hq := Blk.via0 (g := w.heap.size) (t := 23) bB (by repeat (first | with_reducible exact hq | with_reducible (apply Blk.set_) | with_reducible (apply Blk.far; case hp => (simp <;> omega)) | with_reducible (apply Blk.alloc) | with_reducible (apply Blk.drew)))
    replace hq : Blk v1 w.heap.size 23 #[.int .u8 (op : Int), .int .i64 x, .int .i64 y, .int .i64 z] := hq
    replace hr := Blk.via0 (g := (w.heap.size + 1)) (t := 23) bB (by repeat (first | with_reducible exact hr | with_reducible (apply Blk.set_) | with_reducible (apply Blk.far; case hp => (simp <;> omega)) | with_reducible (apply Blk.alloc) | with_reducible (apply Blk.drew)))
    replace hr : Blk v1 (w.heap.size + 1) 23 #[.int .u8 (op2 : Int), .int .i64 x2, .int .i64 y2, .int .i64 z2] := hr
    replace o0 := own_call (by repeat (first | with_reducible exact o0 | (with_reducible apply own_set_; case hne => first | exact ne_o0_hq | exact ne_o0_hr) | with_reducible (apply own_alloc_) | with_reducible (apply own_drew_))) bB
    replace o1 := own_call (by repeat (first | with_reducible exact o1 | (with_reducible apply own_set_; case hne => first | exact ne_o1_hq | exact ne_o1_hr) | with_reducible (apply own_alloc_) | with_reducible (apply own_drew_))) bB
    replace hB := Below.via (w := w) (by have hs_ := hB.size; repeat (first | with_reducible exact hB | with_reducible (refine Below.setCell ?_ (by simp <;> omega) _) | with_reducible (refine Below.alloc ?_ (by first | exact hs_ | (simp <;> omega)) _) | with_reducible (refine Below.drew ?_))) bB
    clear z937 z938 z939 z940 z941 z942 z943 z944 z945 z946 z947 z948 z949 z950 z951 z952 z953 z954
    clear bB
    go_wp2_with fail
    go_ret
    exact ⟨rfl, (by have hs_ := hB.size; repeat (first | with_reducible exact hB | with_reducible (refine Below.setCell ?_ (by simp <;> omega) _) | with_reducible (refine Below.alloc ?_ (by first | exact hs_ | (simp <;> omega)) _) | with_reducible (refine Below.drew ?_)))⟩
  by_cases e0 : op = op2
  · subst e0
    by_cases e1 : x = x2
    · subst e1
      by_cases e2 : y = y2
      · subst e2
        by_cases e3 : z = z2
        · subst e3
          have HB := Lib.hid (show bgB EN2 EN1 = true from by
            have : EN2 = EN1 := HEN2.out.symm.trans HEN1.out
            rw [this]; unfold bgB; simp)
          have z955 : w2.cell? ⟨w.heap.size, 0, none⟩ = some (.int .u8 (op : Int)) := (hq.cell 0).trans rfl
          have z956 := hq.frozen 0
          have z957 : w2.cell? ⟨w.heap.size, 1, none⟩ = some (.int .i64 x) := (hq.cell 1).trans rfl
          have z958 := hq.frozen 1
          have z959 : w2.cell? ⟨w.heap.size, 2, none⟩ = some (.int .i64 y) := (hq.cell 2).trans rfl
          have z960 := hq.frozen 2
          have z961 : w2.cell? ⟨w.heap.size, 3, none⟩ = some (.int .i64 z) := (hq.cell 3).trans rfl
          have z962 := hq.frozen 3
          have z963 : w2.cell? ⟨(w.heap.size + 1), 0, none⟩ = some (.int .u8 (op : Int)) := (hr.cell 0).trans rfl
          have z964 := hr.frozen 0
          have z965 : w2.cell? ⟨(w.heap.size + 1), 1, none⟩ = some (.int .i64 x) := (hr.cell 1).trans rfl
          have z966 := hr.frozen 1
          have z967 : w2.cell? ⟨(w.heap.size + 1), 2, none⟩ = some (.int .i64 y) := (hr.cell 2).trans rfl
          have z968 := hr.frozen 2
          have z969 : w2.cell? ⟨(w.heap.size + 1), 3, none⟩ = some (.int .i64 z) := (hr.cell 3).trans rfl
          have z970 := hr.frozen 3
          have z971 := hq.lt
          have z972 := hr.lt
          go_wp2_with fail
          clear z955 z956 z957 z958 z959 z960 z961 z962 z963 z964 z965 z966 z967 z968 z969 z970 z971 z972
          refine nop_wp (ext_start (by kernel_rfl) calm_nop (fun hQ => ?_))
          have kq : Blk w2.drew w.heap.size 23 #[.int .u8 (op : Int), .int .i64 x, .int .i64 y, .int .i64 z] := hq
          have kr : Blk w2.drew (w.heap.size + 1) 23 #[.int .u8 (op : Int), .int .i64 x, .int .i64 y, .int .i64 z] := hr
          have oa := own_drew_ o0
          have ob_ := own_drew_ o1
          have hB9 := hB.drew
          clear hq hr o0 o1 hB
          generalize w2.drew = xx at *
          have Xkq0 : ∀ W, Ext xx W → W.cell? ⟨w.heap.size, 0, none⟩ = some (.int .u8 (op : Int)) := fun W h_ => ((kq.below h_ kq.lt).cell 0).trans rfl
          have Xkq1 : ∀ W, Ext xx W → W.cell? ⟨w.heap.size, 1, none⟩ = some (.int .i64 x) := fun W h_ => ((kq.below h_ kq.lt).cell 1).trans rfl
          have Xkq2 : ∀ W, Ext xx W → W.cell? ⟨w.heap.size, 2, none⟩ = some (.int .i64 y) := fun W h_ => ((kq.below h_ kq.lt).cell 2).trans rfl
          have Xkq3 : ∀ W, Ext xx W → W.cell? ⟨w.heap.size, 3, none⟩ = some (.int .i64 z) := fun W h_ => ((kq.below h_ kq.lt).cell 3).trans rfl
          have Xkr0 : ∀ W, Ext xx W → W.cell? ⟨(w.heap.size + 1), 0, none⟩ = some (.int .u8 (op : Int)) := fun W h_ => ((kr.below h_ kr.lt).cell 0).trans rfl
          have Xkr1 : ∀ W, Ext xx W → W.cell? ⟨(w.heap.size + 1), 1, none⟩ = some (.int .i64 x) := fun W h_ => ((kr.below h_ kr.lt).cell 1).trans rfl
          have Xkr2 : ∀ W, Ext xx W → W.cell? ⟨(w.heap.size + 1), 2, none⟩ = some (.int .i64 y) := fun W h_ => ((kr.below h_ kr.lt).cell 2).trans rfl
          have Xkr3 : ∀ W, Ext xx W → W.cell? ⟨(w.heap.size + 1), 3, none⟩ = some (.int .i64 z) := fun W h_ => ((kr.below h_ kr.lt).cell 3).trans rfl
          refine ext_take (i := 0) (oi := ?oia10) (v := ?va10) ?hia10 (by kernel_rfl) (by kernel_rfl) (by kernel_rfl) hQ ?hwa10 ?hya10 ?resta10
          case hia10 => simp only [List.getElem?_toArray, List.getElem?_cons_zero]; rfl
          case hwa10 => rfl
          case hya10 => intro W hW; go_simp; with_reducible rfl
          simp only [Act.put, List.setIfInBounds_toArray, List.set_cons_zero, List.set_cons_succ]
          refine ext_take (i := 1) (oi := ?oia11) (v := ?va11) ?hia11 (by kernel_rfl) (by kernel_rfl) (by kernel_rfl) hQ ?hwa11 ?hya11 ?resta11
          case hia11 => simp only [List.getElem?_toArray, List.getElem?_cons_zero, List.getElem?_cons_succ]; rfl
          case hwa11 => rfl
          case hya11 => intro W hW; go_simp; with_reducible rfl
          simp only [Act.put, List.setIfInBounds_toArray, List.set_cons_zero, List.set_cons_succ]
          refine ext_take (i := 3) (oi := ?oia13) (v := ?va13) ?hia13 (by kernel_rfl) (by kernel_rfl) (by kernel_rfl) hQ ?hwa13 ?hya13 ?resta13
          case hia13 => simp only [List.getElem?_toArray, List.getElem?_cons_zero, List.getElem?_cons_succ]; rfl
          case hwa13 => rfl
          case hya13 => intro W hW; go_simp; with_reducible rfl
          simp only [Act.put, List.setIfInBounds_toArray, List.set_cons_zero, List.set_cons_succ]
          refine ext_take (i := 4) (oi := ?oia14) (v := ?va14) ?hia14 (by kernel_rfl) (by kernel_rfl) (by kernel_rfl) hQ ?hwa14 ?hya14 ?resta14
          case hia14 => simp only [List.getElem?_toArray, List.getElem?_cons_zero, List.getElem?_cons_succ]; rfl
          case hwa14 => rfl
          case hya14 => intro W hW; go_simp; with_reducible rfl
          simp only [Act.put, List.setIfInBounds_toArray, List.set_cons_zero, List.set_cons_succ]
          refine ext_take (i := 5) (oi := ?oia15) (v := ?va15) ?hia15 (by kernel_rfl) (by kernel_rfl) (by kernel_rfl) hQ ?hwa15 ?hya15 ?resta15
          case hia15 => simp only [List.getElem?_toArray, List.getElem?_cons_zero, List.getElem?_cons_succ]; rfl
          case hwa15 => rfl
          case hya15 => intro W hW; go_simp; with_reducible rfl
          simp only [Act.put, List.setIfInBounds_toArray, List.set_cons_zero, List.set_cons_succ]
          refine ext_step (i := 2) (oi := ?oia12) (by kernel_rfl) ?hia12 ?hwa12 (fun K hK => ?_)
          case hia12 => simp only [List.getElem?_toArray, List.getElem?_cons_zero, List.getElem?_cons_succ]; rfl
          case hwa12 => rfl
          go_simp
          have HBG := begins_any A1 A0 EN2.length c1 EN1.length c0 EN2 EN1 xx (own_rd ob_) (own_rd oa) (own_cap ob_).1; rw [HB.out] at HBG; refine HBG.mono ?_; rintro e v9 ⟨rfl, b9⟩; have oc := own_call oa b9; have hB8 := hB9.trans (b9.mono hB9.size); refine hK _ _ b9 ?_
          try simp only [Act.put, List.setIfInBounds_toArray, List.set_cons_zero, List.set_cons_succ]
          refine ext_take (i := 6) (oi := ?oia16) (v := ?va16) ?hia16 (by kernel_rfl) (by kernel_rfl) (by kernel_rfl) hQ ?hwa16 ?hya16 ?resta16
          case hia16 => simp only [List.getElem?_toArray, List.getElem?_cons_zero, List.getElem?_cons_succ]; rfl
          case hwa16 => rfl
          case hya16 => intro W hW; go_simp; with_reducible rfl
          simp only [Act.put, List.setIfInBounds_toArray, List.set_cons_zero, List.set_cons_succ]
          refine wpAnyH_done (by kernel_rfl) ?_ _
          simp only [NoP]
          clear Xkq0 Xkq1 Xkq2 Xkq3 Xkr0 Xkr1 Xkr2 Xkr3
          by_cases t0 : t < 0
          · go_wp2_with fail
            refine (alive6_any _).mono ?_
            rintro e v1 ⟨rfl, b1⟩
            have hB7 := hB8.trans (b1.mono hB8.size)
            go_wp2_with fail
            go_ret
            exact ⟨rfl, hB7⟩
          obtain ⟨p, rfl⟩ := Int.eq_ofNat_of_zero_le (show 0 ≤ t by omega)
          by_cases t1 : EN1.length ≤ p
          · go_wp2_with fail
            refine (alive6_any _).mono ?_
            rintro e v1 ⟨rfl, b1⟩
            have hB7 := hB8.trans (b1.mono hB8.size)
            go_wp2_with fail
            go_ret
            exact ⟨rfl, hB7⟩
          have hcap := own_cap oc
          have KS : ∀ W, (Instr.slice 37 (.slice A0 EN1.length c0) none (some (.int .i64 (p : Int))) none).run Try.prog W = .ok (.slice (sA A0 c0 0) p c0) W := fun W => sl6_h A0 EN1.length c0 p (by omega) W
          have R9 : Rb v9 (sA A0 c0 0) p (EN1.take p) := by
            have h9 := sub_reads (c := c0) (i := 0) (v := p) (own_rd oc) (by omega) (by omega)
            simpa using h9
          have HD := decode6_any (sA A0 c0 0) p c0 (EN1.take p) 0 (by omega) v9 R9 (by obtain ⟨h1, h2⟩ := hcap; unfold maxLen at h2; omega)
          have hcut := dec_cutI hop hx hy hz HE1.out (k := p) (by rw [HEN1.out]; omega) (by rw [HEN1.out]; exact LEN1.out)
          rw [HEN1.out] at hcut
          unfold DeP at HD
          rw [hcut] at HD
          go_wp2_with fail
          refine HD.mono ?_
          rintro e v1 ⟨⟨hne, _⟩ | ⟨_, rfl⟩, b1⟩
          · exact absurd hne (by decide)
          have hB7 := hB8.trans (b1.mono hB8.size)
          clear HD b1 R9 KS
          go_wp2_with fail
          refine (alive6_any _).mono ?_
          rintro e v2 ⟨rfl, b2⟩
          have hB6 := ((hB7.alloc (by have := hB7.size; omega) _).alloc (by have := hB7.size; simp <;> omega) _).trans (b2.mono (by have := hB7.size; simp <;> omega))
          go_wp2_with fail
          go_ret
          exact ⟨rfl, hB6⟩
        · have HB := Lib.hid (show bgB EN2 EN1 = false from by
            unfold bgB
            by_cases hle : EN1.length ≤ EN2.length
            · rw [decide_eq_true hle, Bool.true_and, beq_eq_false_iff_ne]
              intro he
              have := enI_inj hop hx hy hz hop2 hx2 hy2 hz2 HE1.out HE2.out (r := EN2.drop EN1.length) (by rw [List.length_drop]; have := LEN2.out; omega) (by rw [HEN1.out, HEN2.out, ← he, List.length_take, Nat.min_eq_left hle, List.take_append_drop])
              omega
            · rw [decide_eq_false hle]; rfl)
          have f3 : (z == z2) = false := by simp; omega
          clear e3
          have z955 : w2.cell? ⟨w.heap.size, 0, none⟩ = some (.int .u8 (op : Int)) := (hq.cell 0).trans rfl
          have z956 := hq.frozen 0
          have z957 : w2.cell? ⟨w.heap.size, 1, none⟩ = some (.int .i64 x) := (hq.cell 1).trans rfl
          have z958 := hq.frozen 1
          have z959 : w2.cell? ⟨w.heap.size, 2, none⟩ = some (.int .i64 y) := (hq.cell 2).trans rfl
          have z960 := hq.frozen 2
          have z961 : w2.cell? ⟨w.heap.size, 3, none⟩ = some (.int .i64 z) := (hq.cell 3).trans rfl
          have z962 := hq.frozen 3
          have z963 : w2.cell? ⟨(w.heap.size + 1), 0, none⟩ = some (.int .u8 (op : Int)) := (hr.cell 0).trans rfl
          have z964 := hr.frozen 0
          have z965 : w2.cell? ⟨(w.heap.size + 1), 1, none⟩ = some (.int .i64 x) := (hr.cell 1).trans rfl
          have z966 := hr.frozen 1
          have z967 : w2.cell? ⟨(w.heap.size + 1), 2, none⟩ = some (.int .i64 y) := (hr.cell 2).trans rfl
          have z968 := hr.frozen 2
          have z969 : w2.cell? ⟨(w.heap.size + 1), 3, none⟩ = some (.int .i64 z2) := (hr.cell 3).trans rfl
          have z970 := hr.frozen 3
          have z971 := hq.lt
          have z972 := hr.lt
          go_wp2_with fail
          clear z955 z956 z957 z958 z959 z960 z961 z962 z963 z964 z965 z966 z967 z968 z969 z970 z971 z972
          refine nop_wp (ext_start (by kernel_rfl) calm_nop (fun hQ => ?_))
          have kq : Blk w2.drew w.heap.size 23 #[.int .u8 (op : Int), .int .i64 x, .int .i64 y, .int .i64 z] := hq
          have kr : Blk w2.drew (w.heap.size + 1) 23 #[.int .u8 (op : Int), .int .i64 x, .int .i64 y, .int .i64 z2] := hr
          have oa := own_drew_ o0
          have ob_ := own_drew_ o1
          have hB9 := hB.drew
          clear hq hr o0 o1 hB
          generalize w2.drew = xx at *
          have Xkq0 : ∀ W, Ext xx W → W.cell? ⟨w.heap.size, 0, none⟩ = some (.int .u8 (op : Int)) := fun W h_ => ((kq.below h_ kq.lt).cell 0).trans rfl
          have Xkq1 : ∀ W, Ext xx W → W.cell? ⟨w.heap.size, 1, none⟩ = some (.int .i64 x) := fun W h_ => ((kq.below h_ kq.lt).cell 1).trans rfl
          have Xkq2 : ∀ W, Ext xx W → W.cell? ⟨w.heap.size, 2, none⟩ = some (.int .i64 y) := fun W h_ => ((kq.below h_ kq.lt).cell 2).trans rfl
          have Xkq3 : ∀ W, Ext xx W → W.cell? ⟨w.heap.size, 3, none⟩ = some (.int .i64 z) := fun W h_ => ((kq.below h_ kq.lt).cell 3).trans rfl
          have Xkr0 : ∀ W, Ext xx W → W.cell? ⟨(w.heap.size + 1), 0, none⟩ = some (.int .u8 (op : Int)) := fun W h_ => ((kr.below h_ kr.lt).cell 0).trans rfl
          have Xkr1 : ∀ W, Ext xx W → W.cell? ⟨(w.heap.size + 1), 1, none⟩ = some (.int .i64 x) := fun W h_ => ((kr.below h_ kr.lt).cell 1).trans rfl
          have Xkr2 : ∀ W, Ext xx W → W.cell? ⟨(w.heap.size + 1), 2, none⟩ = some (.int .i64 y) := fun W h_ => ((kr.below h_ kr.lt).cell 2).trans rfl
          have Xkr3 : ∀ W, Ext xx W → W.cell? ⟨(w.heap.size + 1), 3, none⟩ = some (.int .i64 z2) := fun W h_ => ((kr.below h_ kr.lt).cell 3).trans rfl
          refine ext_take (i := 0) (oi := ?oia20) (v := ?va20) ?hia20 (by kernel_rfl) (by kernel_rfl) (by kernel_rfl) hQ ?hwa20 ?hya20 ?resta20
          case hia20 => simp only [List.getElem?_toArray, List.getElem?_cons_zero]; rfl
          case hwa20 => rfl
          case hya20 => intro W hW; go_simp; with_reducible rfl
          simp only [Act.put, List.setIfInBounds_toArray, List.set_cons_zero, List.set_cons_succ]
          refine ext_take (i := 1) (oi := ?oia21) (v := ?va21) ?hia21 (by kernel_rfl) (by kernel_rfl) (by kernel_rfl) hQ ?hwa21 ?hya21 ?resta21
          case hia21 => simp only [List.getElem?_toArray, List.getElem?_cons_zero, List.getElem?_cons_succ]; rfl
          case hwa21 => rfl
          case hya21 => intro W hW; go_simp; with_reducible rfl
          simp only [Act.put, List.setIfInBounds_toArray, List.set_cons_zero, List.set_cons_succ]
          refine ext_take (i := 3) (oi := ?oia23) (v := ?va23) ?hia23 (by kernel_rfl) (by kernel_rfl) (by kernel_rfl) hQ ?hwa23 ?hya23 ?resta23
          case hia23 => simp only [List.getElem?_toArray, List.getElem?_cons_zero, List.getElem?_cons_succ]; rfl
          case hwa23 => rfl
          case hya23 => intro W hW; go_simp; with_reducible rfl
          simp only [Act.put, List.setIfInBounds_toArray, List.set_cons_zero, List.set_cons_succ]
          refine ext_take (i := 4) (oi := ?oia24) (v := ?va24) ?hia24 (by kernel_rfl) (by kernel_rfl) (by kernel_rfl) hQ ?hwa24 ?hya24 ?resta24
          case hia24 => simp only [List.getElem?_toArray, List.getElem?_cons_zero, List.getElem?_cons_succ]; rfl
          case hwa24 => rfl
          case hya24 => intro W hW; go_simp; with_reducible rfl
          simp only [Act.put, List.setIfInBounds_toArray, List.set_cons_zero, List.set_cons_succ]
          refine ext_take (i := 5) (oi := ?oia25) (v := ?va25) ?hia25 (by kernel_rfl) (by kernel_rfl) (by kernel_rfl) hQ ?hwa25 ?hya25 ?resta25
          case hia25 => simp only [List.getElem?_toArray, List.getElem?_cons_zero, List.getElem?_cons_succ]; rfl
          case hwa25 => rfl
          case hya25 => intro W hW; go_simp; with_reducible rfl
          simp only [Act.put, List.setIfInBounds_toArray, List.set_cons_zero, List.set_cons_succ]
          refine ext_step (i := 2) (oi := ?oia22) (by kernel_rfl) ?hia22 ?hwa22 (fun K hK => ?_)
          case hia22 => simp only [List.getElem?_toArray, List.getElem?_cons_zero, List.getElem?_cons_succ]; rfl
          case hwa22 => rfl
          go_simp
          have HBG := begins_any A1 A0 EN2.length c1 EN1.length c0 EN2 EN1 xx (own_rd ob_) (own_rd oa) (own_cap ob_).1; rw [HB.out] at HBG; refine HBG.mono ?_; rintro e v9 ⟨rfl, b9⟩; have oc := own_call oa b9; have hB8 := hB9.trans (b9.mono hB9.size); refine hK _ _ b9 ?_
          try simp only [Act.put, List.setIfInBounds_toArray, List.set_cons_zero, List.set_cons_succ]
          refine ext_take (i := 6) (oi := ?oia26) (v := ?va26) ?hia26 (by kernel_rfl) (by kernel_rfl) (by kernel_rfl) hQ ?hwa26 ?hya26 ?resta26
          case hia26 => simp only [List.getElem?_toArray, List.getElem?_cons_zero, List.getElem?_cons_succ]; rfl
          case hwa26 => rfl
          case hya26 => intro W hW; go_simp; with_reducible rfl
          simp only [Act.put, List.setIfInBounds_toArray, List.set_cons_zero, List.set_cons_succ]
          refine wpAnyH_done (by kernel_rfl) ?_ _
          simp only [NoP]
          clear Xkq0 Xkq1 Xkq2 Xkq3 Xkr0 Xkr1 Xkr2 Xkr3
          by_cases t0 : t < 0
          · go_wp2_with fail
            refine (alive6_any _).mono ?_
            rintro e v1 ⟨rfl, b1⟩
            have hB7 := hB8.trans (b1.mono hB8.size)
            go_wp2_with fail
            go_ret
            exact ⟨rfl, hB7⟩
          obtain ⟨p, rfl⟩ := Int.eq_ofNat_of_zero_le (show 0 ≤ t by omega)
          by_cases t1 : EN1.length ≤ p
          · go_wp2_with fail
            refine (alive6_any _).mono ?_
            rintro e v1 ⟨rfl, b1⟩
            have hB7 := hB8.trans (b1.mono hB8.size)
            go_wp2_with fail
            go_ret
            exact ⟨rfl, hB7⟩
          have hcap := own_cap oc
          have KS : ∀ W, (Instr.slice 37 (.slice A0 EN1.length c0) none (some (.int .i64 (p : Int))) none).run Try.prog W = .ok (.slice (sA A0 c0 0) p c0) W := fun W => sl6_h A0 EN1.length c0 p (by omega) W
          have R9 : Rb v9 (sA A0 c0 0) p (EN1.take p) := by
            have h9 := sub_reads (c := c0) (i := 0) (v := p) (own_rd oc) (by omega) (by omega)
            simpa using h9
          have HD := decode6_any (sA A0 c0 0) p c0 (EN1.take p) 0 (by omega) v9 R9 (by obtain ⟨h1, h2⟩ := hcap; unfold maxLen at h2; omega)
          have hcut := dec_cutI hop hx hy hz HE1.out (k := p) (by rw [HEN1.out]; omega) (by rw [HEN1.out]; exact LEN1.out)
          rw [HEN1.out] at hcut
          unfold DeP at HD
          rw [hcut] at HD
          go_wp2_with fail
          refine HD.mono ?_
          rintro e v1 ⟨⟨hne, _⟩ | ⟨_, rfl⟩, b1⟩
          · exact absurd hne (by decide)
          have hB7 := hB8.trans (b1.mono hB8.size)
          clear HD b1 R9 KS
          go_wp2_with fail
          refine (alive6_any _).mono ?_
          rintro e v2 ⟨rfl, b2⟩
          have hB6 := ((hB7.alloc (by have := hB7.size; omega) _).alloc (by have := hB7.size; simp <;> omega) _).trans (b2.mono (by have := hB7.size; simp <;> omega))
          go_wp2_with fail
          go_ret
          exact ⟨rfl, hB6⟩
      · have HB := Lib.hid (show bgB EN2 EN1 = false from by
          unfold bgB
          by_cases hle : EN1.length ≤ EN2.length
          · rw [decide_eq_true hle, Bool.true_and, beq_eq_false_iff_ne]
            intro he
            have := enI_inj hop hx hy hz hop2 hx2 hy2 hz2 HE1.out HE2.out (r := EN2.drop EN1.length) (by rw [List.length_drop]; have := LEN2.out; omega) (by rw [HEN1.out, HEN2.out, ← he, List.length_take, Nat.min_eq_left hle, List.take_append_drop])
            omega
          · rw [decide_eq_false hle]; rfl)
        have f2 : (y == y2) = false := by simp; omega
        clear e2
        have z955 : w2.cell? ⟨w.heap.size, 0, none⟩ = some (.int .u8 (op : Int)) := (hq.cell 0).trans rfl
        have z956 := hq.frozen 0
        have z957 : w2.cell? ⟨w.heap.size, 1, none⟩ = some (.int .i64 x) := (hq.cell 1).trans rfl
        have z958 := hq.frozen 1
        have z959 : w2.cell? ⟨w.heap.size, 2, none⟩ = some (.int .i64 y) := (hq.cell 2).trans rfl
        have z960 := hq.frozen 2
        have z961 : w2.cell? ⟨w.heap.size, 3, none⟩ = some (.int .i64 z) := (hq.cell 3).trans rfl
        have z962 := hq.frozen 3
        have z963 : w2.cell? ⟨(w.heap.size + 1), 0, none⟩ = some (.int .u8 (op : Int)) := (hr.cell 0).trans rfl
        have z964 := hr.frozen 0
        have z965 : w2.cell? ⟨(w.heap.size + 1), 1, none⟩ = some (.int .i64 x) := (hr.cell 1).trans rfl
        have z966 := hr.frozen 1
        have z967 : w2.cell? ⟨(w.heap.size + 1), 2, none⟩ = some (.int .i64 y2) := (hr.cell 2).trans rfl
        have z968 := hr.frozen 2
        have z969 : w2.cell? ⟨(w.heap.size + 1), 3, none⟩ = some (.int .i64 z2) := (hr.cell 3).trans rfl
        have z970 := hr.frozen 3
        have z971 := hq.lt
        have z972 := hr.lt
        go_wp2_with fail
        clear z955 z956 z957 z958 z959 z960 z961 z962 z963 z964 z965 z966 z967 z968 z969 z970 z971 z972
        refine nop_wp (ext_start (by kernel_rfl) calm_nop (fun hQ => ?_))
        have kq : Blk w2.drew w.heap.size 23 #[.int .u8 (op : Int), .int .i64 x, .int .i64 y, .int .i64 z] := hq
        have kr : Blk w2.drew (w.heap.size + 1) 23 #[.int .u8 (op : Int), .int .i64 x, .int .i64 y2, .int .i64 z2] := hr
        have oa := own_drew_ o0
        have ob_ := own_drew_ o1
        have hB9 := hB.drew
        clear hq hr o0 o1 hB
        generalize w2.drew = xx at *
        have Xkq0 : ∀ W, Ext xx W → W.cell? ⟨w.heap.size, 0, none⟩ = some (.int .u8 (op : Int)) := fun W h_ => ((kq.below h_ kq.lt).cell 0).trans rfl
        have Xkq1 : ∀ W, Ext xx W → W.cell? ⟨w.heap.size, 1, none⟩ = some (.int .i64 x) := fun W h_ => ((kq.below h_ kq.lt).cell 1).trans rfl
        have Xkq2 : ∀ W, Ext xx W → W.cell? ⟨w.heap.size, 2, none⟩ = some (.int .i64 y) := fun W h_ => ((kq.below h_ kq.lt).cell 2).trans rfl
        have Xkq3 : ∀ W, Ext xx W → W.cell? ⟨w.heap.size, 3, none⟩ = some (.int .i64 z) := fun W h_ => ((kq.below h_ kq.lt).cell 3).trans rfl
        have Xkr0 : ∀ W, Ext xx W → W.cell? ⟨(w.heap.size + 1), 0, none⟩ = some (.int .u8 (op : Int)) := fun W h_ => ((kr.below h_ kr.lt).cell 0).trans rfl
        have Xkr1 : ∀ W, Ext xx W → W.cell? ⟨(w.heap.size + 1), 1, none⟩ = some (.int .i64 x) := fun W h_ => ((kr.below h_ kr.lt).cell 1).trans rfl
        have Xkr2 : ∀ W, Ext xx W → W.cell? ⟨(w.heap.size + 1), 2, none⟩ = some (.int .i64 y2) := fun W h_ => ((kr.below h_ kr.lt).cell 2).trans rfl
        have Xkr3 : ∀ W, Ext xx W → W.cell? ⟨(w.heap.size + 1), 3, none⟩ = some (.int .i64 z2) := fun W h_ => ((kr.below h_ kr.lt).cell 3).trans rfl
        refine ext_take (i := 0) (oi := ?oia30) (v := ?va30) ?hia30 (by kernel_rfl) (by kernel_rfl) (by kernel_rfl) hQ ?hwa30 ?hya30 ?resta30
        case hia30 => simp only [List.getElem?_toArray, List.getElem?_cons_zero]; rfl
        case hwa30 => rfl
        case hya30 => intro W hW; go_simp; with_reducible rfl
        simp only [Act.put, List.setIfInBounds_toArray, List.set_cons_zero, List.set_cons_succ]
        refine ext_take (i := 1) (oi := ?oia31) (v := ?va31) ?hia31 (by kernel_rfl) (by kernel_rfl) (by kernel_rfl) hQ ?hwa31 ?hya31 ?resta31
        case hia31 => simp only [List.getElem?_toArray, List.getElem?_cons_zero, List.getElem?_cons_succ]; rfl
        case hwa31 => rfl
        case hya31 => intro W hW; go_simp; with_reducible rfl
        simp only [Act.put, List.setIfInBounds_toArray, List.set_cons_zero, List.set_cons_succ]
        refine ext_take (i := 3) (oi := ?oia33) (v := ?va33) ?hia33 (by kernel_rfl) (by kernel_rfl) (by kernel_rfl) hQ ?hwa33 ?hya33 ?resta33
        case hia33 => simp only [List.getElem?_toArray, List.getElem?_cons_zero, List.getElem?_cons_succ]; rfl
        case hwa33 => rfl
        case hya33 => intro W hW; go_simp; with_reducible rfl
        simp only [Act.put, List.setIfInBounds_toArray, List.set_cons_zero, List.set_cons_succ]
        refine ext_take (i := 4) (oi := ?oia34) (v := ?va34) ?hia34 (by kernel_rfl) (by kernel_rfl) (by kernel_rfl) hQ ?hwa34 ?hya34 ?resta34
        case hia34 => simp only [List.getElem?_toArray, List.getElem?_cons_zero, List.getElem?_cons_succ]; rfl
        case hwa34 => rfl
        case hya34 => intro W hW; go_simp; with_reducible rfl
        simp only [Act.put, List.setIfInBounds_toArray, List.set_cons_zero, List.set_cons_succ]
        refine ext_take (i := 5) (oi := ?oia35) (v := ?va35) ?hia35 (by kernel_rfl) (by kernel_rfl) (by kernel_rfl) hQ ?hwa35 ?hya35 ?resta35
        case hia35 => simp only [List.getElem?_toArray, List.getElem?_cons_zero, List.getElem?_cons_succ]; rfl
        case hwa35 => rfl
        case hya35 => intro W hW; go_simp; with_reducible rfl
        simp only [Act.put, List.setIfInBounds_toArray, List.set_cons_zero, List.set_cons_succ]
        refine ext_step (i := 2) (oi := ?oia32) (by kernel_rfl) ?hia32 ?hwa32 (fun K hK => ?_)
        case hia32 => simp only [List.getElem?_toArray, List.getElem?_cons_zero, List.getElem?_cons_succ]; rfl
        case hwa32 => rfl
        go_simp
        have HBG := begins_any A1 A0 EN2.length c1 EN1.length c0 EN2 EN1 xx (own_rd ob_) (own_rd oa) (own_cap ob_).1; rw [HB.out] at HBG; refine HBG.mono ?_; rintro e v9 ⟨rfl, b9⟩; have oc := own_call oa b9; have hB8 := hB9.trans (b9.mono hB9.size); refine hK _ _ b9 ?_
        try simp only [Act.put, List.setIfInBounds_toArray, List.set_cons_zero, List.set_cons_succ]
        refine ext_take (i := 6) (oi := ?oia36) (v := ?va36) ?hia36 (by kernel_rfl) (by kernel_rfl) (by kernel_rfl) hQ ?hwa36 ?hya36 ?resta36
        case hia36 => simp only [List.getElem?_toArray, List.getElem?_cons_zero, List.getElem?_cons_succ]; rfl
        case hwa36 => rfl
        case hya36 => intro W hW; go_simp; with_reducible rfl
        simp only [Act.put, List.setIfInBounds_toArray, List.set_cons_zero, List.set_cons_succ]
        refine wpAnyH_done (by kernel_rfl) ?_ _
        simp only [NoP]
        clear Xkq0 Xkq1 Xkq2 Xkq3 Xkr0 Xkr1 Xkr2 Xkr3
        by_cases t0 : t < 0
        · go_wp2_with fail
          refine (alive6_any _).mono ?_
          rintro e v1 ⟨rfl, b1⟩
          have hB7 := hB8.trans (b1.mono hB8.size)
          go_wp2_with fail
          go_ret
          exact ⟨rfl, hB7⟩
        obtain ⟨p, rfl⟩ := Int.eq_ofNat_of_zero_le (show 0 ≤ t by omega)
        by_cases t1 : EN1.length ≤ p
        · go_wp2_with fail
          refine (alive6_any _).mono ?_
          rintro e v1 ⟨rfl, b1⟩
          have hB7 := hB8.trans (b1.mono hB8.size)
          go_wp2_with fail
          go_ret
          exact ⟨rfl, hB7⟩
        have hcap := own_cap oc
        have KS : ∀ W, (Instr.slice 37 (.slice A0 EN1.length c0) none (some (.int .i64 (p : Int))) none).run Try.prog W = .ok (.slice (sA A0 c0 0) p c0) W := fun W => sl6_h A0 EN1.length c0 p (by omega) W
        have R9 : Rb v9 (sA A0 c0 0) p (EN1.take p) := by
          have h9 := sub_reads (c := c0) (i := 0) (v := p) (own_rd oc) (by omega) (by omega)
          simpa using h9
        have HD := decode6_any (sA A0 c0 0) p c0 (EN1.take p) 0 (by omega) v9 R9 (by obtain ⟨h1, h2⟩ := hcap; unfold maxLen at h2; omega)
        have hcut := dec_cutI hop hx hy hz HE1.out (k := p) (by rw [HEN1.out]; omega) (by rw [HEN1.out]; exact LEN1.out)
        rw [HEN1.out] at hcut
        unfold DeP at HD
        rw [hcut] at HD
        go_wp2_with fail
        refine HD.mono ?_
        rintro e v1 ⟨⟨hne, _⟩ | ⟨_, rfl⟩, b1⟩
        · exact absurd hne (by decide)
        have hB7 := hB8.trans (b1.mono hB8.size)
        clear HD b1 R9 KS
        go_wp2_with fail
        refine (alive6_any _).mono ?_
        rintro e v2 ⟨rfl, b2⟩
        have hB6 := ((hB7.alloc (by have := hB7.size; omega) _).alloc (by have := hB7.size; simp <;> omega) _).trans (b2.mono (by have := hB7.size; simp <;> omega))
        go_wp2_with fail
        go_ret
        exact ⟨rfl, hB6⟩
    · have HB := Lib.hid (show bgB EN2 EN1 = false from by
        unfold bgB
        by_cases hle : EN1.length ≤ EN2.length
        · rw [decide_eq_true hle, Bool.true_and, beq_eq_false_iff_ne]
          intro he
          have := enI_inj hop hx hy hz hop2 hx2 hy2 hz2 HE1.out HE2.out (r := EN2.drop EN1.length) (by rw [List.length_drop]; have := LEN2.out; omega) (by rw [HEN1.out, HEN2.out, ← he, List.length_take, Nat.min_eq_left hle, List.take_append_drop])
          omega
        · rw [decide_eq_false hle]; rfl)
      have f1 : (x == x2) = false := by simp; omega
      clear e1
      have z955 : w2.cell? ⟨w.heap.size, 0, none⟩ = some (.int .u8 (op : Int)) := (hq.cell 0).trans rfl
      have z956 := hq.frozen 0
      have z957 : w2.cell? ⟨w.heap.size, 1, none⟩ = some (.int .i64 x) := (hq.cell 1).trans rfl
      have z958 := hq.frozen 1
      have z959 : w2.cell? ⟨w.heap.size, 2, none⟩ = some (.int .i64 y) := (hq.cell 2).trans rfl
      have z960 := hq.frozen 2
      have z961 : w2.cell? ⟨w.heap.size, 3, none⟩ = some (.int .i64 z) := (hq.cell 3).trans rfl
      have z962 := hq.frozen 3
      have z963 : w2.cell? ⟨(w.heap.size + 1), 0, none⟩ = some (.int .u8 (op : Int)) := (hr.cell 0).trans rfl
      have z964 := hr.frozen 0
      have z965 : w2.cell? ⟨(w.heap.size + 1), 1, none⟩ = some (.int .i64 x2) := (hr.cell 1).trans rfl
      have z966 := hr.frozen 1
      have z967 : w2.cell? ⟨(w.heap.size + 1), 2, none⟩ = some (.int .i64 y2) := (hr.cell 2).trans rfl
      have z968 := hr.frozen 2
      have z969 : w2.cell? ⟨(w.heap.size + 1), 3, none⟩ = some (.int .i64 z2) := (hr.cell 3).trans rfl
      have z970 := hr.frozen 3
      have z971 := hq.lt
      have z972 := hr.lt
      go_wp2_with fail
      clear z955 z956 z957 z958 z959 z960 z961 z962 z963 z964 z965 z966 z967 z968 z969 z970 z971 z972
      refine nop_wp (ext_start (by kernel_rfl) calm_nop (fun hQ => ?_))
      have kq : Blk w2.drew w.heap.size 23 #[.int .u8 (op : Int), .int .i64 x, .int .i64 y, .int .i64 z] := hq
      have kr : Blk w2.drew (w.heap.size + 1) 23 #[.int .u8 (op : Int), .int .i64 x2, .int .i64 y2, .int .i64 z2] := hr
      have oa := own_drew_ o0
      have ob_ := own_drew_ o1
      have hB9 := hB.drew
      clear hq hr o0 o1 hB
      generalize w2.drew = xx at *
      have Xkq0 : ∀ W, Ext xx W → W.cell? ⟨w.heap.size, 0, none⟩ = some (.int .u8 (op : Int)) := fun W h_ => ((kq.below h_ kq.lt).cell 0).trans rfl
      have Xkq1 : ∀ W, Ext xx W → W.cell? ⟨w.heap.size, 1, none⟩ = some (.int .i64 x) := fun W h_ => ((kq.below h_ kq.lt).cell 1).trans rfl
      have Xkq2 : ∀ W, Ext xx W → W.cell? ⟨w.heap.size, 2, none⟩ = some (.int .i64 y) := fun W h_ => ((kq.below h_ kq.lt).cell 2).trans rfl
      have Xkq3 : ∀ W, Ext xx W → W.cell? ⟨w.heap.size, 3, none⟩ = some (.int .i64 z) := fun W h_ => ((kq.below h_ kq.lt).cell 3).trans rfl
      have Xkr0 : ∀ W, Ext xx W → W.cell? ⟨(w.heap.size + 1), 0, none⟩ = some (.int .u8 (op : Int)) := fun W h_ => ((kr.below h_ kr.lt).cell 0).trans rfl
      have Xkr1 : ∀ W, Ext xx W → W.cell? ⟨(w.heap.size + 1), 1, none⟩ = some (.int .i64 x2) := fun W h_ => ((kr.below h_ kr.lt).cell 1).trans rfl
      have Xkr2 : ∀ W, Ext xx W → W.cell? ⟨(w.heap.size + 1), 2, none⟩ = some (.int .i64 y2) := fun W h_ => ((kr.below h_ kr.lt).cell 2).trans rfl
      have Xkr3 : ∀ W, Ext xx W → W.cell? ⟨(w.heap.size + 1), 3, none⟩ = some (.int .i64 z2) := fun W h_ => ((kr.below h_ kr.lt).cell 3).trans rfl
      refine ext_take (i := 0) (oi := ?oia40) (v := ?va40) ?hia40 (by kernel_rfl) (by kernel_rfl) (by kernel_rfl) hQ ?hwa40 ?hya40 ?resta40
      case hia40 => simp only [List.getElem?_toArray, List.getElem?_cons_zero]; rfl
      case hwa40 => rfl
      case hya40 => intro W hW; go_simp; with_reducible rfl
      simp only [Act.put, List.setIfInBounds_toArray, List.set_cons_zero, List.set_cons_succ]
      refine ext_take (i := 1) (oi := ?oia41) (v := ?va41) ?hia41 (by kernel_rfl) (by kernel_rfl) (by kernel_rfl) hQ ?hwa41 ?hya41 ?resta41
      case hia41 => simp only [List.getElem?_toArray, List.getElem?_cons_zero, List.getElem?_cons_succ]; rfl
      case hwa41 => rfl
      case hya41 => intro W hW; go_simp; with_reducible rfl
      simp only [Act.put, List.setIfInBounds_toArray, List.set_cons_zero, List.set_cons_succ]
      refine ext_take (i := 3) (oi := ?oia43) (v := ?va43) ?hia43 (by kernel_rfl) (by kernel_rfl) (by kernel_rfl) hQ ?hwa43 ?hya43 ?resta43
      case hia43 => simp only [List.getElem?_toArray, List.getElem?_cons_zero, List.getElem?_cons_succ]; rfl
      case hwa43 => rfl
      case hya43 => intro W hW; go_simp; with_reducible rfl
      simp only [Act.put, List.setIfInBounds_toArray, List.set_cons_zero, List.set_cons_succ]
      refine ext_take (i := 4) (oi := ?oia44) (v := ?va44) ?hia44 (by kernel_rfl) (by kernel_rfl) (by kernel_rfl) hQ ?hwa44 ?hya44 ?resta44
      case hia44 => simp only [List.getElem?_toArray, List.getElem?_cons_zero, List.getElem?_cons_succ]; rfl
      case hwa44 => rfl
      case hya44 => intro W hW; go_simp; with_reducible rfl
      simp only [Act.put, List.setIfInBounds_toArray, List.set_cons_zero, List.set_cons_succ]
      refine ext_take (i := 5) (oi := ?oia45) (v := ?va45) ?hia45 (by kernel_rfl) (by kernel_rfl) (by kernel_rfl) hQ ?hwa45 ?hya45 ?resta45
      case hia45 => simp only [List.getElem?_toArray, List.getElem?_cons_zero, List.getElem?_cons_succ]; rfl
      case hwa45 => rfl
      case hya45 => intro W hW; go_simp; with_reducible rfl
      simp only [Act.put, List.setIfInBounds_toArray, List.set_cons_zero, List.set_cons_succ]
      refine ext_step (i := 2) (oi := ?oia42) (by kernel_rfl) ?hia42 ?hwa42 (fun K hK => ?_)
      case hia42 => simp only [List.getElem?_toArray, List.getElem?_cons_zero, List.getElem?_cons_succ]; rfl
      case hwa42 => rfl
      go_simp
      have HBG := begins_any A1 A0 EN2.length c1 EN1.length c0 EN2 EN1 xx (own_rd ob_) (own_rd oa) (own_cap ob_).1; rw [HB.out] at HBG; refine HBG.mono ?_; rintro e v9 ⟨rfl, b9⟩; have oc := own_call oa b9; have hB8 := hB9.trans (b9.mono hB9.size); refine hK _ _ b9 ?_
      try simp only [Act.put, List.setIfInBounds_toArray, List.set_cons_zero, List.set_cons_succ]
      refine ext_take (i := 6) (oi := ?oia46) (v := ?va46) ?hia46 (by kernel_rfl) (by kernel_rfl) (by kernel_rfl) hQ ?hwa46 ?hya46 ?resta46
      case hia46 => simp only [List.getElem?_toArray, List.getElem?_cons_zero, List.getElem?_cons_succ]; rfl
      case hwa46 => rfl
      case hya46 => intro W hW; go_simp; with_reducible rfl
      simp only [Act.put, List.setIfInBounds_toArray, List.set_cons_zero, List.set_cons_succ]
      refine wpAnyH_done (by kernel_rfl) ?_ _
      simp only [NoP]
      clear Xkq0 Xkq1 Xkq2 Xkq3 Xkr0 Xkr1 Xkr2 Xkr3
      by_cases t0 : t < 0
      · go_wp2_with fail
        refine (alive6_any _).mono ?_
        rintro e v1 ⟨rfl, b1⟩
        have hB7 := hB8.trans (b1.mono hB8.size)
        go_wp2_with fail
        go_ret
        exact ⟨rfl, hB7⟩
      obtain ⟨p, rfl⟩ := Int.eq_ofNat_of_zero_le (show 0 ≤ t by omega)
      by_cases t1 : EN1.length ≤ p
      · go_wp2_with fail
        refine (alive6_any _).mono ?_
        rintro e v1 ⟨rfl, b1⟩
        have hB7 := hB8.trans (b1.mono hB8.size)
        go_wp2_with fail
        go_ret
        exact ⟨rfl, hB7⟩
      have hcap := own_cap oc
      have KS : ∀ W, (Instr.slice 37 (.slice A0 EN1.length c0) none (some (.int .i64 (p : Int))) none).run Try.prog W = .ok (.slice (sA A0 c0 0) p c0) W := fun W => sl6_h A0 EN1.length c0 p (by omega) W
      have R9 : Rb v9 (sA A0 c0 0) p (EN1.take p) := by
        have h9 := sub_reads (c := c0) (i := 0) (v := p) (own_rd oc) (by omega) (by omega)
        simpa using h9
      have HD := decode6_any (sA A0 c0 0) p c0 (EN1.take p) 0 (by omega) v9 R9 (by obtain ⟨h1, h2⟩ := hcap; unfold maxLen at h2; omega)
      have hcut := dec_cutI hop hx hy hz HE1.out (k := p) (by rw [HEN1.out]; omega) (by rw [HEN1.out]; exact LEN1.out)
      rw [HEN1.out] at hcut
      unfold DeP at HD
      rw [hcut] at HD
      go_wp2_with fail
      refine HD.mono ?_
      rintro e v1 ⟨⟨hne, _⟩ | ⟨_, rfl⟩, b1⟩
      · exact absurd hne (by decide)
      have hB7 := hB8.trans (b1.mono hB8.size)
      clear HD b1 R9 KS
      go_wp2_with fail
      refine (alive6_any _).mono ?_
      rintro e v2 ⟨rfl, b2⟩
      have hB6 := ((hB7.alloc (by have := hB7.size; omega) _).alloc (by have := hB7.size; simp <;> omega) _).trans (b2.mono (by have := hB7.size; simp <;> omega))
      go_wp2_with fail
      go_ret
      exact ⟨rfl, hB6⟩
  · have HB := Lib.hid (show bgB EN2 EN1 = false from by
      unfold bgB
      by_cases hle : EN1.length ≤ EN2.length
      · rw [decide_eq_true hle, Bool.true_and, beq_eq_false_iff_ne]
        intro he
        have := enI_inj hop hx hy hz hop2 hx2 hy2 hz2 HE1.out HE2.out (r := EN2.drop EN1.length) (by rw [List.length_drop]; have := LEN2.out; omega) (by rw [HEN1.out, HEN2.out, ← he, List.length_take, Nat.min_eq_left hle, List.take_append_drop])
        omega
      · rw [decide_eq_false hle]; rfl)
    have f0 : ((op : Int) == (op2 : Int)) = false := by simp; omega
    clear e0
    have z955 : w2.cell? ⟨w.heap.size, 0, none⟩ = some (.int .u8 (op : Int)) := (hq.cell 0).trans rfl
    have z956 := hq.frozen 0
    have z957 : w2.cell? ⟨w.heap.size, 1, none⟩ = some (.int .i64 x) := (hq.cell 1).trans rfl
    have z958 := hq.frozen 1
    have z959 : w2.cell? ⟨w.heap.size, 2, none⟩ = some (.int .i64 y) := (hq.cell 2).trans rfl
    have z960 := hq.frozen 2
    have z961 : w2.cell? ⟨w.heap.size, 3, none⟩ = some (.int .i64 z) := (hq.cell 3).trans rfl
    have z962 := hq.frozen 3
    have z963 : w2.cell? ⟨(w.heap.size + 1), 0, none⟩ = some (.int .u8 (op2 : Int)) := (hr.cell 0).trans rfl
    have z964 := hr.frozen 0
    have z965 : w2.cell? ⟨(w.heap.size + 1), 1, none⟩ = some (.int .i64 x2) := (hr.cell 1).trans rfl
    have z966 := hr.frozen 1
    have z967 : w2.cell? ⟨(w.heap.size + 1), 2, none⟩ = some (.int .i64 y2) := (hr.cell 2).trans rfl
    have z968 := hr.frozen 2
    have z969 : w2.cell? ⟨(w.heap.size + 1), 3, none⟩ = some (.int .i64 z2) := (hr.cell 3).trans rfl
    have z970 := hr.frozen 3
    have z971 := hq.lt
    have z972 := hr.lt
    go_wp2_with fail
    clear z955 z956 z957 z958 z959 z960 z961 z962 z963 z964 z965 z966 z967 z968 z969 z970 z971 z972
    refine nop_wp (ext_start (by kernel_rfl) calm_nop (fun hQ => ?_))
    have kq : Blk w2.drew w.heap.size 23 #[.int .u8 (op : Int), .int .i64 x, .int .i64 y, .int .i64 z] := hq
    have kr : Blk w2.drew (w.heap.size + 1) 23 #[.int .u8 (op2 : Int), .int .i64 x2, .int .i64 y2, .int .i64 z2] := hr
    have oa := own_drew_ o0
    have ob_ := own_drew_ o1
    have hB9 := hB.drew
    clear hq hr o0 o1 hB
    generalize w2.drew = xx at *
    have Xkq0 : ∀ W, Ext xx W → W.cell? ⟨w.heap.size, 0, none⟩ = some (.int .u8 (op : Int)) := fun W h_ => ((kq.below h_ kq.lt).cell 0).trans rfl
    have Xkq1 : ∀ W, Ext xx W → W.cell? ⟨w.heap.size, 1, none⟩ = some (.int .i64 x) := fun W h_ => ((kq.below h_ kq.lt).cell 1).trans rfl
    have Xkq2 : ∀ W, Ext xx W → W.cell? ⟨w.heap.size, 2, none⟩ = some (.int .i64 y) := fun W h_ => ((kq.below h_ kq.lt).cell 2).trans rfl
    have Xkq3 : ∀ W, Ext xx W → W.cell? ⟨w.heap.size, 3, none⟩ = some (.int .i64 z) := fun W h_ => ((kq.below h_ kq.lt).cell 3).trans rfl
    have Xkr0 : ∀ W, Ext xx W → W.cell? ⟨(w.heap.size + 1), 0, none⟩ = some (.int .u8 (op2 : Int)) := fun W h_ => ((kr.below h_ kr.lt).cell 0).trans rfl
    have Xkr1 : ∀ W, Ext xx W → W.cell? ⟨(w.heap.size + 1), 1, none⟩ = some (.int .i64 x2) := fun W h_ => ((kr.below h_ kr.lt).cell 1).trans rfl
    have Xkr2 : ∀ W, Ext xx W → W.cell? ⟨(w.heap.size + 1), 2, none⟩ = some (.int .i64 y2) := fun W h_ => ((kr.below h_ kr.lt).cell 2).trans rfl
    have Xkr3 : ∀ W, Ext xx W → W.cell? ⟨(w.heap.size + 1), 3, none⟩ = some (.int .i64 z2) := fun W h_ => ((kr.below h_ kr.lt).cell 3).trans rfl
    refine ext_take (i := 0) (oi := ?oia50) (v := ?va50) ?hia50 (by kernel_rfl) (by kernel_rfl) (by kernel_rfl) hQ ?hwa50 ?hya50 ?resta50
    case hia50 => simp only [List.getElem?_toArray, List.getElem?_cons_zero]; rfl
    case hwa50 => rfl
    case hya50 => intro W hW; go_simp; with_reducible rfl
    simp only [Act.put, List.setIfInBounds_toArray, List.set_cons_zero, List.set_cons_succ]
    refine ext_take (i := 1) (oi := ?oia51) (v := ?va51) ?hia51 (by kernel_rfl) (by kernel_rfl) (by kernel_rfl) hQ ?hwa51 ?hya51 ?resta51
    case hia51 => simp only [List.getElem?_toArray, List.getElem?_cons_zero, List.getElem?_cons_succ]; rfl
    case hwa51 => rfl
    case hya51 => intro W hW; go_simp; with_reducible rfl
    simp only [Act.put, List.setIfInBounds_toArray, List.set_cons_zero, List.set_cons_succ]
    refine ext_take (i := 3) (oi := ?oia53) (v := ?va53) ?hia53 (by kernel_rfl) (by kernel_rfl) (by kernel_rfl) hQ ?hwa53 ?hya53 ?resta53
    case hia53 => simp only [List.getElem?_toArray, List.getElem?_cons_zero, List.getElem?_cons_succ]; rfl
    case hwa53 => rfl
    case hya53 => intro W hW; go_simp; with_reducible rfl
    simp only [Act.put, List.setIfInBounds_toArray, List.set_cons_zero, List.set_cons_succ]
    refine ext_take (i := 4) (oi := ?oia54) (v := ?va54) ?hia54 (by kernel_rfl) (by kernel_rfl) (by kernel_rfl) hQ ?hwa54 ?hya54 ?resta54
    case hia54 => simp only [List.getElem?_toArray, List.getElem?_cons_zero, List.getElem?_cons_succ]; rfl
    case hwa54 => rfl
    case hya54 => intro W hW; go_simp; with_reducible rfl
    simp only [Act.put, List.setIfInBounds_toArray, List.set_cons_zero, List.set_cons_succ]
    refine ext_take (i := 5) (oi := ?oia55) (v := ?va55) ?hia55 (by kernel_rfl) (by kernel_rfl) (by kernel_rfl) hQ ?hwa55 ?hya55 ?resta55
    case hia55 => simp only [List.getElem?_toArray, List.getElem?_cons_zero, List.getElem?_cons_succ]; rfl
    case hwa55 => rfl
    case hya55 => intro W hW; go_simp; with_reducible rfl
    simp only [Act.put, List.setIfInBounds_toArray, List.set_cons_zero, List.set_cons_succ]
    refine ext_step (i := 2) (oi := ?oia52) (by kernel_rfl) ?hia52 ?hwa52 (fun K hK => ?_)
    case hia52 => simp only [List.getElem?_toArray, List.getElem?_cons_zero, List.getElem?_cons_succ]; rfl
    case hwa52 => rfl
    go_simp
    have HBG := begins_any A1 A0 EN2.length c1 EN1.length c0 EN2 EN1 xx (own_rd ob_) (own_rd oa) (own_cap ob_).1; rw [HB.out] at HBG; refine HBG.mono ?_; rintro e v9 ⟨rfl, b9⟩; have oc := own_call oa b9; have hB8 := hB9.trans (b9.mono hB9.size); refine hK _ _ b9 ?_
    try simp only [Act.put, List.setIfInBounds_toArray, List.set_cons_zero, List.set_cons_succ]
    refine ext_take (i := 6) (oi := ?oia56) (v := ?va56) ?hia56 (by kernel_rfl) (by kernel_rfl) (by kernel_rfl) hQ ?hwa56 ?hya56 ?resta56
    case hia56 => simp only [List.getElem?_toArray, List.getElem?_cons_zero, List.getElem?_cons_succ]; rfl
    case hwa56 => rfl
    case hya56 => intro W hW; go_simp; with_reducible rfl
    simp only [Act.put, List.setIfInBounds_toArray, List.set_cons_zero, List.set_cons_succ]
    refine wpAnyH_done (by kernel_rfl) ?_ _
    simp only [NoP]
    clear Xkq0 Xkq1 Xkq2 Xkq3 Xkr0 Xkr1 Xkr2 Xkr3
    by_cases t0 : t < 0
    · go_wp2_with fail
      refine (alive6_any _).mono ?_
      rintro e v1 ⟨rfl, b1⟩
      have hB7 := hB8.trans (b1.mono hB8.size)
      go_wp2_with fail
      go_ret
      exact ⟨rfl, hB7⟩
    obtain ⟨p, rfl⟩ := Int.eq_ofNat_of_zero_le (show 0 ≤ t by omega)
    by_cases t1 : EN1.length ≤ p
    · go_wp2_with fail
      refine (alive6_any _).mono ?_
      rintro e v1 ⟨rfl, b1⟩
      have hB7 := hB8.trans (b1.mono hB8.size)
      go_wp2_with fail
      go_ret
      exact ⟨rfl, hB7⟩
    have hcap := own_cap oc
    have KS : ∀ W, (Instr.slice 37 (.slice A0 EN1.length c0) none (some (.int .i64 (p : Int))) none).run Try.prog W = .ok (.slice (sA A0 c0 0) p c0) W := fun W => sl6_h A0 EN1.length c0 p (by omega) W
    have R9 : Rb v9 (sA A0 c0 0) p (EN1.take p) := by
      have h9 := sub_reads (c := c0) (i := 0) (v := p) (own_rd oc) (by omega) (by omega)
      simpa using h9
    have HD := decode6_any (sA A0 c0 0) p c0 (EN1.take p) 0 (by omega) v9 R9 (by obtain ⟨h1, h2⟩ := hcap; unfold maxLen at h2; omega)
    have hcut := dec_cutI hop hx hy hz HE1.out (k := p) (by rw [HEN1.out]; omega) (by rw [HEN1.out]; exact LEN1.out)
    rw [HEN1.out] at hcut
    unfold DeP at HD
    rw [hcut] at HD
    go_wp2_with fail
    refine HD.mono ?_
    rintro e v1 ⟨⟨hne, _⟩ | ⟨_, rfl⟩, b1⟩
    · exact absurd hne (by decide)
    have hB7 := hB8.trans (b1.mono hB8.size)
    clear HD b1 R9 KS
    go_wp2_with fail
    refine (alive6_any _).mono ?_
    rintro e v2 ⟨rfl, b2⟩
    have hB6 := ((hB7.alloc (by have := hB7.size; omega) _).alloc (by have := hB7.size; simp <;> omega) _).trans (b2.mono (by have := hB7.size; simp <;> omega))
    go_wp2_with fail
    go_ret
    exact ⟨rfl, hB6⟩

end Go.Proofs.Ytkhdeoihjnpnaaa
