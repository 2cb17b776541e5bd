/- The contract of the reference's Read. It states its conditions. -/
import Derived.Test.YtkhdeoihjnpnaaaOpsR2
import Derived.Test.YtkhdeoihjnpnaaaOps2
import Derived.Test.YtkhdeoihjnpnaaaWireReads0
import Derived.BigQuiet
namespace Go.Proofs.Ytkhdeoihjnpnaaa
open Go.RowKit Wire
set_option linter.unusedVariables false

/-- How far the reference's loop over the operands has come. -/
def RS (l ks : List UInt8) (p0 j p : Nat) (d : List Int) (f : Bool) : Prop := p ≤ l.length ∧ (rdS l ks p0).1 = (rdS l (ks.drop j) p).1 ∧
  ((rdS l (ks.drop j) p).1 = 0 → (rdS l ks p0).2.1 = d ++ (rdS l (ks.drop j) p).2.1 ∧ (rdS l ks p0).2.2.1 = (rdS l (ks.drop j) p).2.2.1 ∧ (rdS l ks p0).2.2.2 = (f && (rdS l (ks.drop j) p).2.2.2))
section
variable {l ks : List UInt8} {p0 j p : Nat} {d : List Int} {f : Bool} {k : UInt8}
theorem RS.start (h : p0 ≤ l.length) : RS l ks p0 0 p0 [] true := ⟨h, rfl, fun _ => ⟨rfl, rfl, by simp⟩⟩
theorem RS.no (h : RS l ks p0 j p d f) (hk : ks.drop j = k :: ks.drop (j + 1)) (h45 : k.toNat = 45) : RS l ks p0 (j + 1) p (d ++ [0]) f := by
  obtain ⟨h1, h2, h3⟩ := h
  rw [hk, rdS_no h45] at h2 h3
  exact ⟨h1, h2, fun h0 => by obtain ⟨a, b, c⟩ := h3 h0; exact ⟨by rw [a]; simp, b, c⟩⟩
theorem RS.ok (h : RS l ks p0 j p d f) (hk : ks.drop j = k :: ks.drop (j + 1)) (h45 : k.toNat ≠ 45) (he : (uvR l (p : Int)).1 = 0) : RS l ks p0 (j + 1) (p + (uvR l (p : Int)).2.2) (d ++ [rdv l k p]) (f && rdg l k p) := by
  obtain ⟨h1, h2, h3⟩ := h
  rw [hk, rdS_ok h45 he] at h2 h3
  exact ⟨by have := (uvR_le he).2.2.1; simpa using this, h2, fun h0 => by obtain ⟨a, b, c⟩ := h3 h0; exact ⟨by rw [a]; simp, b, by rw [c, Bool.and_assoc]⟩⟩
theorem RS.bad (h : RS l ks p0 j p d f) (hk : ks.drop j = k :: ks.drop (j + 1)) (h45 : k.toNat ≠ 45) (he : (uvR l (p : Int)).1 ≠ 0) : (rdS l ks p0).1 = (uvR l (p : Int)).1 := by
  obtain ⟨h1, h2, h3⟩ := h
  rw [hk, rdS_bad h45 he] at h2
  exact h2
theorem RS.fin (h : RS l ks p0 j p d f) (hk : ks.drop j = []) : (rdS l ks p0).1 = 0 ∧ (rdS l ks p0).2.1 = d ∧ (rdS l ks p0).2.2.1 = p ∧ (rdS l ks p0).2.2.2 = f := by
  obtain ⟨h1, h2, h3⟩ := h
  rw [hk] at h2 h3
  obtain ⟨a, b, c⟩ := h3 rfl
  exact ⟨h2, by rw [a]; simp [rdS], b, by rw [c]; simp [rdS]⟩
end
section
variable {l : List UInt8} {a op : Nat} {k0 k1 k2 : UInt8}
theorem rr_form (h1 : a < l.length) (hx : (l.getD a 0).toNat = op) (hs : shR (op : Int) = ⟨#[k0, k1, k2]⟩) : rrS l a = rdS l [k0, k1, k2] (a + 1) ∧ rrE l a = if (rdS l [k0, k1, k2] (a + 1)).1 ≠ 0 then (rdS l [k0, k1, k2] (a + 1)).1 else if (rdS l [k0, k1, k2] (a + 1)).2.2.2 = false then 12 else 0 := by
  have e : rrS l a = rdS l [k0, k1, k2] (a + 1) := by unfold rrS; rw [hx, hs]
  refine ⟨e, ?_⟩
  unfold rrE
  rw [if_neg (by omega), hx, hs, if_neg (fun h => h rfl), e]
theorem rr_none (h1 : a < l.length) (hx : (l.getD a 0).toNat = op) (hs : shR (op : Int) = ⟨#[]⟩) : rrE l a = 12 := by
  unfold rrE
  rw [if_neg (by omega), hx, hs, if_pos (by decide)]
theorem rr_end (h : a = l.length) : rrE l a = 24 := by unfold rrE; rw [if_pos h]
end
theorem shR_all : (List.range 256).all (fun (op : Nat) => decide ((shR (op : Int)).data.toList.length = 3) || decide ((shR (op : Int)).data.toList = [])) = true := by decide +kernel
theorem shR_cases {op : Nat} (hop : op < 256) : shR (op : Int) = ⟨#[]⟩ ∨ ∃ k0 k1 k2, shR (op : Int) = ⟨#[k0, k1, k2]⟩ := by
  have h := List.all_eq_true.1 shR_all op (List.mem_range.2 hop)
  generalize shR (op : Int) = s at h
  obtain ⟨⟨l⟩⟩ := s
  simp only [Bool.or_eq_true, decide_eq_true_eq] at h
  rcases h with h | h
  · rcases l with _ | ⟨x, _ | ⟨y, _ | ⟨z, _ | ⟨u, l⟩⟩⟩⟩
    · simp at h
    · simp at h
    · simp at h
    · exact .inr ⟨x, y, z, rfl⟩
    · simp at h
  · subst h
    exact .inl rfl
theorem sgR_b (k : UInt8) (w : World) : Calls Try.prog 42 #[.int .u8 (k.toNat : Int)] w fun e w' => e = .returned (.bool (sgR (k.toNat : Int))) ∧ Below w.heap.size w w' := by
  refine (sgR_any (k.toNat : Int) (by have := k.toNat_lt; omega) w).mono ?_
  rintro e w' ⟨rfl, rfl⟩
  exact ⟨rfl, Below.refl _ _⟩
theorem half_b (n : Nat) (hn : n < 18446744073709551616) (w : World) : Calls Try.prog 43 #[.int .u64 (n : Int)] w fun e w' => e = .returned (.int .i64 (hlf n)) ∧ Below w.heap.size w w' := by
  refine (half_any n hn w).mono ?_
  rintro e w' ⟨rfl, rfl⟩
  exact ⟨rfl, Below.refl _ _⟩
theorem ftR_b (k : UInt8) (n : Int) (hn : -9223372036854775808 ≤ n ∧ n ≤ 9223372036854775807) (w : World) : Calls Try.prog 44 #[.int .u8 (k.toNat : Int), .int .i64 n] w fun e w' => e = .returned (.bool (ftR (k.toNat : Int) n)) ∧ w = w' :=
  ftR_any (k.toNat : Int) n (by have := k.toNat_lt; omega) hn w
def RrP (w : World) (A : Option Addr) (n c : Nat) (l : List UInt8) (a : Nat) (e : Ending) (w' : World) : Prop :=
  ((rrE l a = 0 ∧ ∃ x y z, (rrS l a).2.1 = [x, y, z] ∧ e = .returned (.tuple #[cur A n c ((rrS l a).2.2.1 : Nat), insV (l.getD a 0).toNat x y z, .int .i64 0])) ∨
   (rrE l a ≠ 0 ∧ e = .returned (.tuple #[cur none 0 0 0, insV 0 0 0 0, .int .i64 (rrE l a)]))) ∧ Below w.heap.size w w'

set_option maxRecDepth 100000 in
set_option maxHeartbeats 6400000 in
theorem rread6_any (A : Option Addr) (n c : Nat) (l : List UInt8) (a : Nat) (w : World) (hr : Rb w A n l) (hnc : n ≤ c ∧ n ≤ 200000) (ha : a ≤ n) :
    Calls Try.prog 31 #[cur A n c (a : Int)] w fun e w' => RrP w A n c l a e w' := by
  have HR := Lib.hid hr
  have HL := Lib.hid hr.len8
  clear hr
  have hB : Below w.heap.size w (((w.alloc (.cells #[.slice A n c, .int .i64 (a : Int)] 39)).alloc (.cells #[.slice none 0 0, .int .i64 0] 39)).alloc (.cells #[.int .u8 0, .int .i64 0, .int .i64 0, .int .i64 0] 23)) := (Below.alloc (Below.alloc (Below.alloc (Below.refl w.heap.size w) (by simp <;> omega) (.cells #[.slice A n c, .int .i64 (a : Int)] 39)) (by simp <;> omega) (.cells #[.slice none 0 0, .int .i64 0] 39)) (by simp <;> omega) (.cells #[.int .u8 0, .int .i64 0, .int .i64 0, .int .i64 0] 23))
  have hc := Blk.new w 39 #[.slice A n c, .int .i64 (a : Int)]
  replace hc := hc.alloc (.cells #[.slice none 0 0, .int .i64 0] 39)
  replace hc := hc.alloc (.cells #[.int .u8 0, .int .i64 0, .int .i64 0, .int .i64 0] 23)
  have h2 := Blk.new (w.alloc (.cells #[.slice A n c, .int .i64 (a : Int)] 39)) 39 #[.slice none 0 0, .int .i64 0]
  rw [show (w.alloc (.cells #[.slice A n c, .int .i64 (a : Int)] 39)).heap.size = w.heap.size + 1 from by simp] at h2
  replace h2 := h2.alloc (.cells #[.int .u8 0, .int .i64 0, .int .i64 0, .int .i64 0] 23)
  have h3 := Blk.new ((w.alloc (.cells #[.slice A n c, .int .i64 (a : Int)] 39)).alloc (.cells #[.slice none 0 0, .int .i64 0] 39)) 23 #[.int .u8 0, .int .i64 0, .int .i64 0, .int .i64 0]
  rw [show ((w.alloc (.cells #[.slice A n c, .int .i64 (a : Int)] 39)).alloc (.cells #[.slice none 0 0, .int .i64 0] 39)).heap.size = w.heap.size + 2 from by simp] at h3
  go_enter Try.func31, Try.ntmps31
  by_cases hpn : a = n
  · have d0 : ((a : Int) == (n : Int)) = true := by simp; omega
    have HE := Lib.hid (rr_end (l := l) (a := a) (by rw [HL.out]; exact hpn))
    have HN0 := Lib.hid (show (24 : Int) ≠ 0 by decide)
    clear hpn
    have z901 : (((w.alloc (.cells #[.slice A n c, .int .i64 (a : Int)] 39)).alloc (.cells #[.slice none 0 0, .int .i64 0] 39)).alloc (.cells #[.int .u8 0, .int .i64 0, .int .i64 0, .int .i64 0] 23)).cell? ⟨w.heap.size, 0, none⟩ = some (.slice A n c) := (hc.cell 0).trans rfl
    have z902 := hc.frozen 0
    have z903 : (((w.alloc (.cells #[.slice A n c, .int .i64 (a : Int)] 39)).alloc (.cells #[.slice none 0 0, .int .i64 0] 39)).alloc (.cells #[.int .u8 0, .int .i64 0, .int .i64 0, .int .i64 0] 23)).cell? ⟨w.heap.size, 1, none⟩ = some (.int .i64 (a : Int)) := (hc.cell 1).trans rfl
    have z904 := hc.frozen 1
    have z905 : (((w.alloc (.cells #[.slice A n c, .int .i64 (a : Int)] 39)).alloc (.cells #[.slice none 0 0, .int .i64 0] 39)).alloc (.cells #[.int .u8 0, .int .i64 0, .int .i64 0, .int .i64 0] 23)).cell? ⟨(w.heap.size + 1), 0, none⟩ = some (.slice none 0 0) := (h2.cell 0).trans rfl
    have z906 := h2.frozen 0
    have z907 : (((w.alloc (.cells #[.slice A n c, .int .i64 (a : Int)] 39)).alloc (.cells #[.slice none 0 0, .int .i64 0] 39)).alloc (.cells #[.int .u8 0, .int .i64 0, .int .i64 0, .int .i64 0] 23)).cell? ⟨(w.heap.size + 1), 1, none⟩ = some (.int .i64 0) := (h2.cell 1).trans rfl
    have z908 := h2.frozen 1
    have z909 : (((w.alloc (.cells #[.slice A n c, .int .i64 (a : Int)] 39)).alloc (.cells #[.slice none 0 0, .int .i64 0] 39)).alloc (.cells #[.int .u8 0, .int .i64 0, .int .i64 0, .int .i64 0] 23)).cell? ⟨(w.heap.size + 2), 0, none⟩ = some (.int .u8 0) := (h3.cell 0).trans rfl
    have z910 := h3.frozen 0
    have z911 : (((w.alloc (.cells #[.slice A n c, .int .i64 (a : Int)] 39)).alloc (.cells #[.slice none 0 0, .int .i64 0] 39)).alloc (.cells #[.int .u8 0, .int .i64 0, .int .i64 0, .int .i64 0] 23)).cell? ⟨(w.heap.size + 2), 1, none⟩ = some (.int .i64 0) := (h3.cell 1).trans rfl
    have z912 := h3.frozen 1
    have z913 : (((w.alloc (.cells #[.slice A n c, .int .i64 (a : Int)] 39)).alloc (.cells #[.slice none 0 0, .int .i64 0] 39)).alloc (.cells #[.int .u8 0, .int .i64 0, .int .i64 0, .int .i64 0] 23)).cell? ⟨(w.heap.size + 2), 2, none⟩ = some (.int .i64 0) := (h3.cell 2).trans rfl
    have z914 := h3.frozen 2
    have z915 : (((w.alloc (.cells #[.slice A n c, .int .i64 (a : Int)] 39)).alloc (.cells #[.slice none 0 0, .int .i64 0] 39)).alloc (.cells #[.int .u8 0, .int .i64 0, .int .i64 0, .int .i64 0] 23)).cell? ⟨(w.heap.size + 2), 3, none⟩ = some (.int .i64 0) := (h3.cell 3).trans rfl
    have z916 := h3.frozen 3
    have z917 := hc.lt
    have z918 := h2.lt
    have z919 := h3.lt
    go_wp2_with fail
    refine ret_cc1 rfl curT insT rfl (by repeat (first | with_reducible exact h2 | with_reducible (apply Blk.set_) | with_reducible (apply Blk.far; case hp => (simp <;> omega)) | with_reducible (apply Blk.alloc) | with_reducible (apply Blk.drew))) (by rfl) rfl (by repeat (first | with_reducible exact h3 | with_reducible (apply Blk.set_) | with_reducible (apply Blk.far; case hp => (simp <;> omega)) | with_reducible (apply Blk.alloc) | with_reducible (apply Blk.drew))) (by rfl) ?_
    exact ⟨.inr ⟨by rw [HE.out]; exact HN0.out, by rw [HE.out]; rfl⟩, (by have hs_ := hB.size; repeat (first | with_reducible exact hB | with_reducible (refine Below.setCell ?_ (by simp <;> omega) _) | with_reducible (refine Below.alloc ?_ (by first | exact hs_ | (simp <;> omega)) _) | with_reducible (refine Below.drew ?_)))⟩
  have hlt : a < n := by omega
  have d0 : ((a : Int) == (n : Int)) = false := by simp; omega
  obtain ⟨ad, u, hA, hab, hu0, hcx⟩ := (HR.out.mv hB).at_ hlt
  have hpl : a < l.length := by rw [HL.out]; exact hlt
  have HPL := Lib.hid hpl
  obtain ⟨x, hx0⟩ : ∃ x, l[a]? = some x := ⟨_, List.getElem?_eq_getElem hpl⟩
  rw [List.getElem?_map, hx0] at hu0
  replace hu0 : some (b8 x) = some u := hu0
  obtain rfl := Option.some.inj hu0
  rw [b8] at hcx
  have hX : l.getD a 0 = x := by rw [List.getD_eq_getElem?_getD, hx0]; rfl
  subst hA
  clear hx0 hu0 hpn
  obtain ⟨op, hop⟩ : ∃ op, x.toNat = op := ⟨_, rfl⟩
  have hop6 : op < 256 := by have := x.toNat_lt; omega
  rw [hop] at hcx
  have HOP := Lib.hid (show (l.getD a 0).toNat = op from by rw [hX, hop])
  clear hop hX hpl
  have HS := fun W => shR_any (op : Int) (by omega) W
  have z901 : (((w.alloc (.cells #[.slice (some ad) n c, .int .i64 (a : Int)] 39)).alloc (.cells #[.slice none 0 0, .int .i64 0] 39)).alloc (.cells #[.int .u8 0, .int .i64 0, .int .i64 0, .int .i64 0] 23)).cell? ⟨w.heap.size, 0, none⟩ = some (.slice (some ad) n c) := (hc.cell 0).trans rfl
  have z902 := hc.frozen 0
  have z903 : (((w.alloc (.cells #[.slice (some ad) n c, .int .i64 (a : Int)] 39)).alloc (.cells #[.slice none 0 0, .int .i64 0] 39)).alloc (.cells #[.int .u8 0, .int .i64 0, .int .i64 0, .int .i64 0] 23)).cell? ⟨w.heap.size, 1, none⟩ = some (.int .i64 (a : Int)) := (hc.cell 1).trans rfl
  have z904 := hc.frozen 1
  have z905 : (((w.alloc (.cells #[.slice (some ad) n c, .int .i64 (a : Int)] 39)).alloc (.cells #[.slice none 0 0, .int .i64 0] 39)).alloc (.cells #[.int .u8 0, .int .i64 0, .int .i64 0, .int .i64 0] 23)).cell? ⟨(w.heap.size + 1), 0, none⟩ = some (.slice none 0 0) := (h2.cell 0).trans rfl
  have z906 := h2.frozen 0
  have z907 : (((w.alloc (.cells #[.slice (some ad) n c, .int .i64 (a : Int)] 39)).alloc (.cells #[.slice none 0 0, .int .i64 0] 39)).alloc (.cells #[.int .u8 0, .int .i64 0, .int .i64 0, .int .i64 0] 23)).cell? ⟨(w.heap.size + 1), 1, none⟩ = some (.int .i64 0) := (h2.cell 1).trans rfl
  have z908 := h2.frozen 1
  have z909 : (((w.alloc (.cells #[.slice (some ad) n c, .int .i64 (a : Int)] 39)).alloc (.cells #[.slice none 0 0, .int .i64 0] 39)).alloc (.cells #[.int .u8 0, .int .i64 0, .int .i64 0, .int .i64 0] 23)).cell? ⟨(w.heap.size + 2), 0, none⟩ = some (.int .u8 0) := (h3.cell 0).trans rfl
  have z910 := h3.frozen 0
  have z911 : (((w.alloc (.cells #[.slice (some ad) n c, .int .i64 (a : Int)] 39)).alloc (.cells #[.slice none 0 0, .int .i64 0] 39)).alloc (.cells #[.int .u8 0, .int .i64 0, .int .i64 0, .int .i64 0] 23)).cell? ⟨(w.heap.size + 2), 1, none⟩ = some (.int .i64 0) := (h3.cell 1).trans rfl
  have z912 := h3.frozen 1
  have z913 : (((w.alloc (.cells #[.slice (some ad) n c, .int .i64 (a : Int)] 39)).alloc (.cells #[.slice none 0 0, .int .i64 0] 39)).alloc (.cells #[.int .u8 0, .int .i64 0, .int .i64 0, .int .i64 0] 23)).cell? ⟨(w.heap.size + 2), 2, none⟩ = some (.int .i64 0) := (h3.cell 2).trans rfl
  have z914 := h3.frozen 2
  have z915 : (((w.alloc (.cells #[.slice (some ad) n c, .int .i64 (a : Int)] 39)).alloc (.cells #[.slice none 0 0, .int .i64 0] 39)).alloc (.cells #[.int .u8 0, .int .i64 0, .int .i64 0, .int .i64 0] 23)).cell? ⟨(w.heap.size + 2), 3, none⟩ = some (.int .i64 0) := (h3.cell 3).trans rfl
  have z916 := h3.frozen 3
  have z917 := hc.lt
  have z918 := h2.lt
  have z919 := h3.lt
  go_wp2_with fail
  rcases shR_cases hop6 with hs | ⟨k0, k1, k2, hs⟩
  · rw [hs] at HS
    have HE := Lib.hid (rr_none HPL.out HOP.out hs)
    have HN0 := Lib.hid (show (12 : Int) ≠ 0 by decide)
    refine (HS _).mono ?_
    rintro e wq ⟨rfl, rfl⟩
    clear HS hs
    go_wp2_with fail
    refine ret_cc1 rfl curT insT rfl (by repeat (first | with_reducible exact h2 | with_reducible (apply Blk.set_) | with_reducible (apply Blk.far; case hp => (simp <;> omega)) | with_reducible (apply Blk.alloc) | with_reducible (apply Blk.drew))) (by rfl) rfl (by repeat (first | with_reducible exact h3 | with_reducible (apply Blk.set_) | with_reducible (apply Blk.far; case hp => (simp <;> omega)) | with_reducible (apply Blk.alloc) | with_reducible (apply Blk.drew))) (by rfl) ?_
    exact ⟨.inr ⟨by rw [HE.out]; exact HN0.out, by rw [HE.out]; rfl⟩, (by have hs_ := hB.size; repeat (first | with_reducible exact hB | with_reducible (refine Below.setCell ?_ (by simp <;> omega) _) | with_reducible (refine Below.alloc ?_ (by first | exact hs_ | (simp <;> omega)) _) | with_reducible (refine Below.drew ?_)))⟩
  rw [hs] at HS
  obtain ⟨hf1, hf2⟩ := rr_form HPL.out HOP.out hs
  have HF1 := Lib.hid hf1
  have HF2 := Lib.hid hf2
  clear hf1 hf2
  refine (HS _).mono ?_
  rintro e wq ⟨rfl, rfl⟩
  clear HS hs
  go_wp2_with fail
  clear z901 z902 z903 z904 z905 z906 z907 z908 z909 z910 z911 z912 z913 z914 z915 z916 z917 z918 z919
  clear hcx
  have hn := (Blk.new (((w.alloc (.cells #[.slice (some ad) n c, .int .i64 (a : Int)] 39)).alloc (.cells #[.slice none 0 0, .int .i64 0] 39)).alloc (.cells #[.int .u8 0, .int .i64 0, .int .i64 0, .int .i64 0] 23)) 39 #[.slice (some ad) n c, .int .i64 ((a : Int) + 1)]).alloc (.cells #[.int .i64 0, .int .i64 0, .int .i64 0] 58)
  rw [show (((w.alloc (.cells #[.slice (some ad) n c, .int .i64 (a : Int)] 39)).alloc (.cells #[.slice none 0 0, .int .i64 0] 39)).alloc (.cells #[.int .u8 0, .int .i64 0, .int .i64 0, .int .i64 0] 23)).heap.size = w.heap.size + 3 from by simp] at hn
  have ho := Blk.new ((((w.alloc (.cells #[.slice (some ad) n c, .int .i64 (a : Int)] 39)).alloc (.cells #[.slice none 0 0, .int .i64 0] 39)).alloc (.cells #[.int .u8 0, .int .i64 0, .int .i64 0, .int .i64 0] 23)).alloc (.cells #[.slice (some ad) n c, .int .i64 ((a : Int) + 1)] 39)) 58 #[.int .i64 0, .int .i64 0, .int .i64 0]
  rw [show ((((w.alloc (.cells #[.slice (some ad) n c, .int .i64 (a : Int)] 39)).alloc (.cells #[.slice none 0 0, .int .i64 0] 39)).alloc (.cells #[.int .u8 0, .int .i64 0, .int .i64 0, .int .i64 0] 23)).alloc (.cells #[.slice (some ad) n c, .int .i64 ((a : Int) + 1)] 39)).heap.size = w.heap.size + 4 from by simp] at ho
  replace h2 := (h2.alloc (.cells #[.slice (some ad) n c, .int .i64 ((a : Int) + 1)] 39)).alloc (.cells #[.int .i64 0, .int .i64 0, .int .i64 0] 58)
  replace h3 := (h3.alloc (.cells #[.slice (some ad) n c, .int .i64 ((a : Int) + 1)] 39)).alloc (.cells #[.int .i64 0, .int .i64 0, .int .i64 0] 58)
  replace hB := (hB.alloc hB.size (.cells #[.slice (some ad) n c, .int .i64 ((a : Int) + 1)] 39)).alloc (hB.alloc hB.size (.cells #[.slice (some ad) n c, .int .i64 ((a : Int) + 1)] 39)).size (.cells #[.int .i64 0, .int .i64 0, .int .i64 0] 58)
  clear hc d0
  go_loopw [9, 10] (fun vf i wr => ∃ (j p : Nat) (v0 v1 v2 : Int) (f : Bool), j ≤ 3 ∧ vf = .bool f ∧ i = .int .i64 (j : Int) ∧ (j = 0 → v0 = 0 ∧ v1 = 0 ∧ v2 = 0 ∧ RS l [k0, k1, k2] (a + 1) 0 p [] f) ∧ (j = 1 → v1 = 0 ∧ v2 = 0 ∧ RS l [k0, k1, k2] (a + 1) 1 p [v0] f) ∧ (j = 2 → v2 = 0 ∧ RS l [k0, k1, k2] (a + 1) 2 p [v0, v1] f) ∧ (j = 3 → RS l [k0, k1, k2] (a + 1) 3 p [v0, v1, v2] f) ∧ Blk wr (w.heap.size + 1) 39 #[.slice none 0 0, .int .i64 0] ∧ Blk wr (w.heap.size + 2) 23 #[.int .u8 0, .int .i64 0, .int .i64 0, .int .i64 0] ∧ Blk wr (w.heap.size + 3) 39 #[.slice (some ad) n c, .int .i64 (p : Int)] ∧ Blk wr (w.heap.size + 4) 58 #[.int .i64 v0, .int .i64 v1, .int .i64 v2] ∧ Below w.heap.size w wr) (fun _ i _ => 3 - (intOf i).toNat)
  case atStart => exact ⟨0, a + 1, 0, 0, 0, true, by omega, rfl, rfl, fun _ => ⟨rfl, rfl, rfl, RS.start HPL.out⟩, by omega, by omega, by omega, h2, h3, by exact_mod_cast hn, ho, hB⟩
  case round =>
    clear h2 h3 hn ho hB
    obtain ⟨j, p, v0, v1, v2, f, hj, rfl, rfl, h0_, h1_, h2_, h3_, h2, h3, hn, ho, hB⟩ := hrel
    rcases j with _ | _ | _ | _ | j
    · obtain ⟨rfl, rfl, rfl, hR⟩ := h0_ rfl
      clear h0_ h1_ h2_ h3_
      have HRS := Lib.hid hR
      have hpn2 : p ≤ n := by rw [← HL.out]; exact hR.1
      clear hR
      by_cases h45 : k0.toNat = 45
      · have HK := Lib.hid h45
        have d45 : ((((⟨#[k0, k1, k2]⟩ : ByteArray)[0]'(by show 0 < 3; decide)).toNat : Int) == 45) = true := by show ((k0.toNat : Int) == 45) = true; simp; omega
        have z901 : wr.cell? ⟨(w.heap.size + 3), 0, none⟩ = some (.slice (some ad) n c) := (hn.cell 0).trans rfl
        have z902 := hn.frozen 0
        have z903 : wr.cell? ⟨(w.heap.size + 3), 1, none⟩ = some (.int .i64 (p : Int)) := (hn.cell 1).trans rfl
        have z904 := hn.frozen 1
        have z905 : wr.cell? ⟨(w.heap.size + 4), 0, none⟩ = some (.int .i64 0) := (ho.cell 0).trans rfl
        have z906 := ho.frozen 0
        have z907 : wr.cell? ⟨(w.heap.size + 4), 1, none⟩ = some (.int .i64 0) := (ho.cell 1).trans rfl
        have z908 := ho.frozen 1
        have z909 : wr.cell? ⟨(w.heap.size + 4), 2, none⟩ = some (.int .i64 0) := (ho.cell 2).trans rfl
        have z910 := ho.frozen 2
        have z911 := h2.lt
        have z912 := h3.lt
        have z913 := hn.lt
        have z914 := ho.lt
        go_wp2_with fail
        go_roundw
        case rel => exact ⟨1, p, (0), (0), (0), f, by omega, rfl, by go_num, by omega, fun _ => ⟨rfl, rfl, RS.no HRS.out rfl HK.out⟩, by omega, by omega, (by repeat (first | with_reducible exact h2 | with_reducible (apply Blk.set_) | with_reducible (apply Blk.far; case hp => (simp <;> omega)) | with_reducible (apply Blk.alloc) | with_reducible (apply Blk.drew))), (by repeat (first | with_reducible exact h3 | with_reducible (apply Blk.set_) | with_reducible (apply Blk.far; case hp => (simp <;> omega)) | with_reducible (apply Blk.alloc) | with_reducible (apply Blk.drew))), (by repeat (first | with_reducible exact hn | with_reducible (apply Blk.set_) | with_reducible (apply Blk.far; case hp => (simp <;> omega)) | with_reducible (apply Blk.alloc) | with_reducible (apply Blk.drew))), (by repeat (first | with_reducible exact ho | with_reducible (apply Blk.set_) | with_reducible (apply Blk.far; case hp => (simp <;> omega)) | with_reducible (apply Blk.alloc) | with_reducible (apply Blk.drew))), (by have hs_ := hB.size; repeat (first | with_reducible exact hB | with_reducible (refine Below.setCell ?_ (by simp <;> omega) _) | with_reducible (refine Below.alloc ?_ (by first | exact hs_ | (simp <;> omega)) _) | with_reducible (refine Below.drew ?_)))⟩
        case measure => simp [intOf]
      have HK := Lib.hid h45
      have d45 : ((((⟨#[k0, k1, k2]⟩ : ByteArray)[0]'(by show 0 < 3; decide)).toNat : Int) == 45) = false := by show ((k0.toNat : Int) == 45) = false; simp; omega
      clear h45
      have HU := fun W h => read_any (some ad) n c l p W h (by omega) hpn2
      by_cases he : (uvR l (p : Int)).1 = 0
      rotate_left
      · obtain ⟨er, her⟩ : ∃ er, (uvR l (p : Int)).1 = er := ⟨_, rfl⟩
        have hE := RS.bad HRS.out rfl HK.out he
        have e0 : rdE l (p : Int) = er := by unfold rdE; exact her
        have hne : er ≠ 0 := by rw [← her]; exact he
        rw [show rdC (some ad) n c l (p : Int) = cur none 0 0 0 from by unfold rdC; rw [if_neg (by rw [e0]; exact hne)], show rdN l (p : Int) = 0 from by unfold rdN; rw [if_neg (by rw [e0]; exact hne)], e0] at HU
        have HN0 := Lib.hid hne
        have HE := Lib.hid (show rrE l a = er from by rw [HF2.out, if_pos (by rw [hE]; exact he), hE, her])
        have dr : (er != 0) = true := by rw [bne_iff_ne]; exact hne
        unfold cur at HU
        clear hE her e0 he hne
        have z901 : wr.cell? ⟨(w.heap.size + 3), 0, none⟩ = some (.slice (some ad) n c) := (hn.cell 0).trans rfl
        have z902 := hn.frozen 0
        have z903 : wr.cell? ⟨(w.heap.size + 3), 1, none⟩ = some (.int .i64 (p : Int)) := (hn.cell 1).trans rfl
        have z904 := hn.frozen 1
        have z905 : wr.cell? ⟨(w.heap.size + 4), 0, none⟩ = some (.int .i64 0) := (ho.cell 0).trans rfl
        have z906 := ho.frozen 0
        have z907 : wr.cell? ⟨(w.heap.size + 4), 1, none⟩ = some (.int .i64 0) := (ho.cell 1).trans rfl
        have z908 := ho.frozen 1
        have z909 : wr.cell? ⟨(w.heap.size + 4), 2, none⟩ = some (.int .i64 0) := (ho.cell 2).trans rfl
        have z910 := ho.frozen 2
        have z911 := h2.lt
        have z912 := h3.lt
        have z913 := hn.lt
        have z914 := ho.lt
        go_wp2_with fail
        refine (HU _ (HR.out.mv (by have hs_ := hB.size; repeat (first | with_reducible exact hB | with_reducible (refine Below.setCell ?_ (by simp <;> omega) _) | with_reducible (refine Below.alloc ?_ (by first | exact hs_ | (simp <;> omega)) _) | with_reducible (refine Below.drew ?_))))).mono ?_
        rintro e x1 ⟨rfl, bB⟩
        replace h2 := Blk.via0 (g := (w.heap.size + 1)) (t := 39) bB (by repeat (first | with_reducible exact h2 | with_reducible (apply Blk.set_) | with_reducible (apply Blk.far; case hp => (simp <;> omega)) | with_reducible (apply Blk.alloc) | with_reducible (apply Blk.drew)))
        replace h2 : Blk x1 (w.heap.size + 1) 39 #[.slice none 0 0, .int .i64 0] := h2
        replace h3 := Blk.via0 (g := (w.heap.size + 2)) (t := 23) bB (by repeat (first | with_reducible exact h3 | with_reducible (apply Blk.set_) | with_reducible (apply Blk.far; case hp => (simp <;> omega)) | with_reducible (apply Blk.alloc) | with_reducible (apply Blk.drew)))
        replace h3 : Blk x1 (w.heap.size + 2) 23 #[.int .u8 0, .int .i64 0, .int .i64 0, .int .i64 0] := h3
        replace hn := Blk.via0 (g := (w.heap.size + 3)) (t := 39) bB (by repeat (first | with_reducible exact hn | with_reducible (apply Blk.set_) | with_reducible (apply Blk.far; case hp => (simp <;> omega)) | with_reducible (apply Blk.alloc) | with_reducible (apply Blk.drew)))
        replace hn : Blk x1 (w.heap.size + 3) 39 #[.slice (some ad) n c, .int .i64 (p : Int)] := hn
        replace ho := Blk.via0 (g := (w.heap.size + 4)) (t := 58) bB (by repeat (first | with_reducible exact ho | with_reducible (apply Blk.set_) | with_reducible (apply Blk.far; case hp => (simp <;> omega)) | with_reducible (apply Blk.alloc) | with_reducible (apply Blk.drew)))
        replace ho : Blk x1 (w.heap.size + 4) 58 #[.int .i64 0, .int .i64 0, .int .i64 0] := ho
        replace hB := Below.via (w := w) (by have hs_ := hB.size; repeat (first | with_reducible exact hB | with_reducible (refine Below.setCell ?_ (by simp <;> omega) _) | with_reducible (refine Below.alloc ?_ (by first | exact hs_ | (simp <;> omega)) _) | with_reducible (refine Below.drew ?_))) bB
        clear z901 z902 z903 z904 z905 z906 z907 z908 z909 z910 z911 z912 z913 z914
        clear bB
        clear HU
        have z915 : x1.cell? ⟨(w.heap.size + 1), 0, none⟩ = some (.slice none 0 0) := (h2.cell 0).trans rfl
        have z916 := h2.frozen 0
        have z917 : x1.cell? ⟨(w.heap.size + 1), 1, none⟩ = some (.int .i64 0) := (h2.cell 1).trans rfl
        have z918 := h2.frozen 1
        have z919 : x1.cell? ⟨(w.heap.size + 2), 0, none⟩ = some (.int .u8 0) := (h3.cell 0).trans rfl
        have z920 := h3.frozen 0
        have z921 : x1.cell? ⟨(w.heap.size + 2), 1, none⟩ = some (.int .i64 0) := (h3.cell 1).trans rfl
        have z922 := h3.frozen 1
        have z923 : x1.cell? ⟨(w.heap.size + 2), 2, none⟩ = some (.int .i64 0) := (h3.cell 2).trans rfl
        have z924 := h3.frozen 2
        have z925 : x1.cell? ⟨(w.heap.size + 2), 3, none⟩ = some (.int .i64 0) := (h3.cell 3).trans rfl
        have z926 := h3.frozen 3
        have z927 := h2.lt
        have z928 := h3.lt
        have z929 := hn.lt
        have z930 := ho.lt
        go_wp2_with fail
        refine ret_cc1 rfl curT insT rfl (by repeat (first | with_reducible exact h2 | with_reducible (apply Blk.set_) | with_reducible (apply Blk.far; case hp => (simp <;> omega)) | with_reducible (apply Blk.alloc) | with_reducible (apply Blk.drew))) (by rfl) rfl (by repeat (first | with_reducible exact h3 | with_reducible (apply Blk.set_) | with_reducible (apply Blk.far; case hp => (simp <;> omega)) | with_reducible (apply Blk.alloc) | with_reducible (apply Blk.drew))) (by rfl) ?_
        exact ⟨.inr ⟨by rw [HE.out]; exact HN0.out, by rw [HE.out]; rfl⟩, (by have hs_ := hB.size; repeat (first | with_reducible exact hB | with_reducible (refine Below.setCell ?_ (by simp <;> omega) _) | with_reducible (refine Below.alloc ?_ (by first | exact hs_ | (simp <;> omega)) _) | with_reducible (refine Below.drew ?_)))⟩
      obtain ⟨hy1, hy2, hy3, _⟩ := uvR_le he
      rw [show ((p : Int)).toNat = p from by simp] at hy3
      obtain ⟨s, hs⟩ : ∃ s, (uvR l (p : Int)).2.2 = s := ⟨_, rfl⟩
      have hqs : p + s ≤ n := by rw [← HL.out, ← hs]; exact hy3
      obtain ⟨u, hu_⟩ : ∃ u, (uvR l (p : Int)).2.1 = u := ⟨_, rfl⟩
      have hub : u < 18446744073709551616 := by rw [← hu_]; exact hy1
      have e0 : rdE l (p : Int) = 0 := he
      rw [show rdC (some ad) n c l (p : Int) = cur (some ad) n c (((p + s : Nat)) : Int) from by unfold rdC; rw [if_pos e0, hs]; rfl, show rdN l (p : Int) = u from by unfold rdN; rw [if_pos e0, hu_], e0] at HU
      unfold cur at HU
      have HOK := Lib.hid (show RS l [k0, k1, k2] (a + 1) 1 (p + s) ([] ++ [rdv l k0 p]) (f && rdg l k0 p) from by have h := RS.ok HRS.out rfl HK.out he; rw [hs] at h; exact h)
      have HDV := Lib.hid (show rdv l k0 p = if sgR (k0.toNat : Int) then hlf u else ((u % 1000 : Nat) : Int) from by unfold rdv; rw [hu_])
      have HDG := Lib.hid (show rdg l k0 p = ((sgR (k0.toNat : Int) || decide (u < 1000)) && ftR (k0.toNat : Int) (rdv l k0 p)) from by unfold rdg; rw [hu_])
      clear e0 he hy1 hy2 hy3 hs hu_ HRS
      have z901 : wr.cell? ⟨(w.heap.size + 3), 0, none⟩ = some (.slice (some ad) n c) := (hn.cell 0).trans rfl
      have z902 := hn.frozen 0
      have z903 : wr.cell? ⟨(w.heap.size + 3), 1, none⟩ = some (.int .i64 (p : Int)) := (hn.cell 1).trans rfl
      have z904 := hn.frozen 1
      have z905 : wr.cell? ⟨(w.heap.size + 4), 0, none⟩ = some (.int .i64 0) := (ho.cell 0).trans rfl
      have z906 := ho.frozen 0
      have z907 : wr.cell? ⟨(w.heap.size + 4), 1, none⟩ = some (.int .i64 0) := (ho.cell 1).trans rfl
      have z908 := ho.frozen 1
      have z909 : wr.cell? ⟨(w.heap.size + 4), 2, none⟩ = some (.int .i64 0) := (ho.cell 2).trans rfl
      have z910 := ho.frozen 2
      have z911 := h2.lt
      have z912 := h3.lt
      have z913 := hn.lt
      have z914 := ho.lt
      go_wp2_with fail
      refine (HU _ (HR.out.mv (by have hs_ := hB.size; repeat (first | with_reducible exact hB | with_reducible (refine Below.setCell ?_ (by simp <;> omega) _) | with_reducible (refine Below.alloc ?_ (by first | exact hs_ | (simp <;> omega)) _) | with_reducible (refine Below.drew ?_))))).mono ?_
      rintro e x1 ⟨rfl, bB⟩
      replace h2 := Blk.via0 (g := (w.heap.size + 1)) (t := 39) bB (by repeat (first | with_reducible exact h2 | with_reducible (apply Blk.set_) | with_reducible (apply Blk.far; case hp => (simp <;> omega)) | with_reducible (apply Blk.alloc) | with_reducible (apply Blk.drew)))
      replace h2 : Blk x1 (w.heap.size + 1) 39 #[.slice none 0 0, .int .i64 0] := h2
      replace h3 := Blk.via0 (g := (w.heap.size + 2)) (t := 23) bB (by repeat (first | with_reducible exact h3 | with_reducible (apply Blk.set_) | with_reducible (apply Blk.far; case hp => (simp <;> omega)) | with_reducible (apply Blk.alloc) | with_reducible (apply Blk.drew)))
      replace h3 : Blk x1 (w.heap.size + 2) 23 #[.int .u8 0, .int .i64 0, .int .i64 0, .int .i64 0] := h3
      replace hn := Blk.via0 (g := (w.heap.size + 3)) (t := 39) bB (by repeat (first | with_reducible exact hn | with_reducible (apply Blk.set_) | with_reducible (apply Blk.far; case hp => (simp <;> omega)) | with_reducible (apply Blk.alloc) | with_reducible (apply Blk.drew)))
      replace hn : Blk x1 (w.heap.size + 3) 39 #[.slice (some ad) n c, .int .i64 (p : Int)] := hn
      replace ho := Blk.via0 (g := (w.heap.size + 4)) (t := 58) bB (by repeat (first | with_reducible exact ho | with_reducible (apply Blk.set_) | with_reducible (apply Blk.far; case hp => (simp <;> omega)) | with_reducible (apply Blk.alloc) | with_reducible (apply Blk.drew)))
      replace ho : Blk x1 (w.heap.size + 4) 58 #[.int .i64 0, .int .i64 0, .int .i64 0] := ho
      replace hB := Below.via (w := w) (by have hs_ := hB.size; repeat (first | with_reducible exact hB | with_reducible (refine Below.setCell ?_ (by simp <;> omega) _) | with_reducible (refine Below.alloc ?_ (by first | exact hs_ | (simp <;> omega)) _) | with_reducible (refine Below.drew ?_))) bB
      clear z901 z902 z903 z904 z905 z906 z907 z908 z909 z910 z911 z912 z913 z914
      clear bB
      clear HU
      have hnx := Blk.new x1 39 #[.slice (some ad) n c, .int .i64 ((p + s : Nat) : Int)]
      obtain ⟨z1_, z2_, z3_, z4_⟩ := hnx.cf2
      have z915 : x1.cell? ⟨(w.heap.size + 3), 0, none⟩ = some (.slice (some ad) n c) := (hn.cell 0).trans rfl
      have z916 := hn.frozen 0
      have z917 : ∀ ob_, (x1.alloc ob_).cell? ⟨(w.heap.size + 3), 0, none⟩ = some (.slice (some ad) n c) := fun ob_ => ((Blk.alloc hn ob_).cell 0).trans rfl
      have z918 : ∀ ob_, (x1.alloc ob_).frozen? ⟨(w.heap.size + 3), 0, none⟩ = false := fun ob_ => (Blk.alloc hn ob_).frozen 0
      have z919 : x1.cell? ⟨(w.heap.size + 3), 1, none⟩ = some (.int .i64 (p : Int)) := (hn.cell 1).trans rfl
      have z920 := hn.frozen 1
      have z921 : ∀ ob_, (x1.alloc ob_).cell? ⟨(w.heap.size + 3), 1, none⟩ = some (.int .i64 (p : Int)) := fun ob_ => ((Blk.alloc hn ob_).cell 1).trans rfl
      have z922 : ∀ ob_, (x1.alloc ob_).frozen? ⟨(w.heap.size + 3), 1, none⟩ = false := fun ob_ => (Blk.alloc hn ob_).frozen 1
      have z923 : x1.cell? ⟨(w.heap.size + 4), 0, none⟩ = some (.int .i64 0) := (ho.cell 0).trans rfl
      have z924 := ho.frozen 0
      have z925 : ∀ ob_, (x1.alloc ob_).cell? ⟨(w.heap.size + 4), 0, none⟩ = some (.int .i64 0) := fun ob_ => ((Blk.alloc ho ob_).cell 0).trans rfl
      have z926 : ∀ ob_, (x1.alloc ob_).frozen? ⟨(w.heap.size + 4), 0, none⟩ = false := fun ob_ => (Blk.alloc ho ob_).frozen 0
      have z927 : x1.cell? ⟨(w.heap.size + 4), 1, none⟩ = some (.int .i64 0) := (ho.cell 1).trans rfl
      have z928 := ho.frozen 1
      have z929 : ∀ ob_, (x1.alloc ob_).cell? ⟨(w.heap.size + 4), 1, none⟩ = some (.int .i64 0) := fun ob_ => ((Blk.alloc ho ob_).cell 1).trans rfl
      have z930 : ∀ ob_, (x1.alloc ob_).frozen? ⟨(w.heap.size + 4), 1, none⟩ = false := fun ob_ => (Blk.alloc ho ob_).frozen 1
      have z931 : x1.cell? ⟨(w.heap.size + 4), 2, none⟩ = some (.int .i64 0) := (ho.cell 2).trans rfl
      have z932 := ho.frozen 2
      have z933 : ∀ ob_, (x1.alloc ob_).cell? ⟨(w.heap.size + 4), 2, none⟩ = some (.int .i64 0) := fun ob_ => ((Blk.alloc ho ob_).cell 2).trans rfl
      have z934 : ∀ ob_, (x1.alloc ob_).frozen? ⟨(w.heap.size + 4), 2, none⟩ = false := fun ob_ => (Blk.alloc ho ob_).frozen 2
      have z935 := h2.lt
      have z936 := h3.lt
      have z937 := hn.lt
      have z938 := ho.lt
      go_wp2_with fail
      clear hnx z1_ z2_ z3_ z4_
      refine (sgR_b k0 _).mono ?_
      rintro e x2 ⟨rfl, bB⟩
      replace h2 := Blk.via0 (g := (w.heap.size + 1)) (t := 39) bB (by repeat (first | with_reducible exact h2 | with_reducible (apply Blk.set_) | with_reducible (apply Blk.far; case hp => (simp <;> omega)) | with_reducible (apply Blk.alloc) | with_reducible (apply Blk.drew)))
      replace h2 : Blk x2 (w.heap.size + 1) 39 #[.slice none 0 0, .int .i64 0] := h2
      replace h3 := Blk.via0 (g := (w.heap.size + 2)) (t := 23) bB (by repeat (first | with_reducible exact h3 | with_reducible (apply Blk.set_) | with_reducible (apply Blk.far; case hp => (simp <;> omega)) | with_reducible (apply Blk.alloc) | with_reducible (apply Blk.drew)))
      replace h3 : Blk x2 (w.heap.size + 2) 23 #[.int .u8 0, .int .i64 0, .int .i64 0, .int .i64 0] := h3
      replace hn := Blk.via0 (g := (w.heap.size + 3)) (t := 39) bB (by repeat (first | with_reducible exact hn | with_reducible (apply Blk.set_) | with_reducible (apply Blk.far; case hp => (simp <;> omega)) | with_reducible (apply Blk.alloc) | with_reducible (apply Blk.drew)))
      replace hn : Blk x2 (w.heap.size + 3) 39 #[.slice (some ad) n c, .int .i64 ((p + s : Nat) : Int)] := hn
      replace ho := Blk.via0 (g := (w.heap.size + 4)) (t := 58) bB (by repeat (first | with_reducible exact ho | with_reducible (apply Blk.set_) | with_reducible (apply Blk.far; case hp => (simp <;> omega)) | with_reducible (apply Blk.alloc) | with_reducible (apply Blk.drew)))
      replace ho : Blk x2 (w.heap.size + 4) 58 #[.int .i64 0, .int .i64 0, .int .i64 0] := ho
      replace hB := Below.via (w := w) (by have hs_ := hB.size; repeat (first | with_reducible exact hB | with_reducible (refine Below.setCell ?_ (by simp <;> omega) _) | with_reducible (refine Below.alloc ?_ (by first | exact hs_ | (simp <;> omega)) _) | with_reducible (refine Below.drew ?_))) bB
      clear z915 z916 z917 z918 z919 z920 z921 z922 z923 z924 z925 z926 z927 z928 z929 z930 z931 z932 z933 z934 z935 z936 z937 z938
      clear bB
      by_cases hsg : sgR (k0.toNat : Int) = true
      · rw [hsg]
        have hdv : rdv l k0 p = hlf u := by rw [HDV.out, hsg]; rfl
        have hrg := hlf_rng hub
        have z939 : x2.cell? ⟨(w.heap.size + 4), 0, none⟩ = some (.int .i64 0) := (ho.cell 0).trans rfl
        have z940 := ho.frozen 0
        have z941 : x2.cell? ⟨(w.heap.size + 4), 1, none⟩ = some (.int .i64 0) := (ho.cell 1).trans rfl
        have z942 := ho.frozen 1
        have z943 : x2.cell? ⟨(w.heap.size + 4), 2, none⟩ = some (.int .i64 0) := (ho.cell 2).trans rfl
        have z944 := ho.frozen 2
        have z945 := h2.lt
        have z946 := h3.lt
        have z947 := hn.lt
        have z948 := ho.lt
        go_wp2_with fail
        refine (half_b u hub _).mono ?_
        rintro e x3 ⟨rfl, bB⟩
        replace h2 := Blk.via0 (g := (w.heap.size + 1)) (t := 39) bB (by repeat (first | with_reducible exact h2 | with_reducible (apply Blk.set_) | with_reducible (apply Blk.far; case hp => (simp <;> omega)) | with_reducible (apply Blk.alloc) | with_reducible (apply Blk.drew)))
        replace h2 : Blk x3 (w.heap.size + 1) 39 #[.slice none 0 0, .int .i64 0] := h2
        replace h3 := Blk.via0 (g := (w.heap.size + 2)) (t := 23) bB (by repeat (first | with_reducible exact h3 | with_reducible (apply Blk.set_) | with_reducible (apply Blk.far; case hp => (simp <;> omega)) | with_reducible (apply Blk.alloc) | with_reducible (apply Blk.drew)))
        replace h3 : Blk x3 (w.heap.size + 2) 23 #[.int .u8 0, .int .i64 0, .int .i64 0, .int .i64 0] := h3
        replace hn := Blk.via0 (g := (w.heap.size + 3)) (t := 39) bB (by repeat (first | with_reducible exact hn | with_reducible (apply Blk.set_) | with_reducible (apply Blk.far; case hp => (simp <;> omega)) | with_reducible (apply Blk.alloc) | with_reducible (apply Blk.drew)))
        replace hn : Blk x3 (w.heap.size + 3) 39 #[.slice (some ad) n c, .int .i64 ((p + s : Nat) : Int)] := hn
        replace ho := Blk.via0 (g := (w.heap.size + 4)) (t := 58) bB (by repeat (first | with_reducible exact ho | with_reducible (apply Blk.set_) | with_reducible (apply Blk.far; case hp => (simp <;> omega)) | with_reducible (apply Blk.alloc) | with_reducible (apply Blk.drew)))
        replace ho : Blk x3 (w.heap.size + 4) 58 #[.int .i64 0, .int .i64 0, .int .i64 0] := ho
        replace hB := Below.via (w := w) (by have hs_ := hB.size; repeat (first | with_reducible exact hB | with_reducible (refine Below.setCell ?_ (by simp <;> omega) _) | with_reducible (refine Below.alloc ?_ (by first | exact hs_ | (simp <;> omega)) _) | with_reducible (refine Below.drew ?_))) bB
        clear z939 z940 z941 z942 z943 z944 z945 z946 z947 z948
        clear bB
        cases f
        · have hfin : (false && rdg l k0 p) = false := by rw [HDG.out, hsg, hdv]; rfl
          have z949 : x3.cell? ⟨(w.heap.size + 4), 0, none⟩ = some (.int .i64 0) := (ho.cell 0).trans rfl
          have z950 := ho.frozen 0
          have z951 : x3.cell? ⟨(w.heap.size + 4), 1, none⟩ = some (.int .i64 0) := (ho.cell 1).trans rfl
          have z952 := ho.frozen 1
          have z953 : x3.cell? ⟨(w.heap.size + 4), 2, none⟩ = some (.int .i64 0) := (ho.cell 2).trans rfl
          have z954 := ho.frozen 2
          have z955 := h2.lt
          have z956 := h3.lt
          have z957 := hn.lt
          have z958 := ho.lt
          go_wp2_with fail
          clear z949 z950 z951 z952 z953 z954 z955 z956 z957 z958
          replace ho : Blk (x3.setCell ⟨w.heap.size + 4, 0, none⟩ (.int .i64 (hlf u))) (w.heap.size + 4) 58 #[.int .i64 (hlf u), .int .i64 0, .int .i64 0] := ho.set_ 0 (.int .i64 (hlf u))
          replace h2 := h2.far (p := ⟨w.heap.size + 4, 0, none⟩) (by simp <;> omega) (.int .i64 (hlf u))
          replace h3 := h3.far (p := ⟨w.heap.size + 4, 0, none⟩) (by simp <;> omega) (.int .i64 (hlf u))
          replace hn := hn.far (p := ⟨w.heap.size + 4, 0, none⟩) (by simp <;> omega) (.int .i64 (hlf u))
          replace hB := hB.setCell (p := ⟨w.heap.size + 4, 0, none⟩) (by simp <;> omega) (.int .i64 (hlf u))
          generalize (x3.setCell ⟨w.heap.size + 4, 0, none⟩ (.int .i64 (hlf u))) = x8 at *
          refine nop_wp (ext_start (by kernel_rfl) calm_nop (fun hQ => ?_))
          replace h2 : Blk x8.drew (w.heap.size + 1) 39 #[.slice none 0 0, .int .i64 0] := (by repeat (first | with_reducible exact h2 | with_reducible (apply Blk.set_) | with_reducible (apply Blk.far; case hp => (simp <;> omega)) | with_reducible (apply Blk.alloc) | with_reducible (apply Blk.drew)))
          replace h3 : Blk x8.drew (w.heap.size + 2) 23 #[.int .u8 0, .int .i64 0, .int .i64 0, .int .i64 0] := (by repeat (first | with_reducible exact h3 | with_reducible (apply Blk.set_) | with_reducible (apply Blk.far; case hp => (simp <;> omega)) | with_reducible (apply Blk.alloc) | with_reducible (apply Blk.drew)))
          replace hn : Blk x8.drew (w.heap.size + 3) 39 #[.slice (some ad) n c, .int .i64 ((p + s : Nat) : Int)] := (by repeat (first | with_reducible exact hn | with_reducible (apply Blk.set_) | with_reducible (apply Blk.far; case hp => (simp <;> omega)) | with_reducible (apply Blk.alloc) | with_reducible (apply Blk.drew)))
          replace ho : Blk x8.drew (w.heap.size + 4) 58 #[.int .i64 (hlf u), .int .i64 0, .int .i64 0] := (by repeat (first | with_reducible exact ho | with_reducible (apply Blk.set_) | with_reducible (apply Blk.far; case hp => (simp <;> omega)) | with_reducible (apply Blk.alloc) | with_reducible (apply Blk.drew)))
          replace hB : Below w.heap.size w x8.drew := Below.drew (by have hs_ := hB.size; repeat (first | with_reducible exact hB | with_reducible (refine Below.setCell ?_ (by simp <;> omega) _) | with_reducible (refine Below.alloc ?_ (by first | exact hs_ | (simp <;> omega)) _) | with_reducible (refine Below.drew ?_)))
          generalize x8.drew = x9 at *
          have X_ho_0 : ∀ W, Ext x9 W → W.cell? ⟨(w.heap.size + 4), 0, none⟩ = some (.int .i64 (hlf u)) := fun W h_ => ((ho.below h_ ho.lt).cell 0).trans rfl
          have X_ho_1 : ∀ W, Ext x9 W → W.cell? ⟨(w.heap.size + 4), 1, none⟩ = some (.int .i64 0) := fun W h_ => ((ho.below h_ ho.lt).cell 1).trans rfl
          have X_ho_2 : ∀ W, Ext x9 W → W.cell? ⟨(w.heap.size + 4), 2, none⟩ = some (.int .i64 0) := fun W h_ => ((ho.below h_ ho.lt).cell 2).trans rfl
          refine ext_take (i := 0) (oi := ?oit0sf0) (v := ?vt0sf0) ?hit0sf0 (by kernel_rfl) (by kernel_rfl) (by kernel_rfl) hQ ?hwt0sf0 ?hyt0sf0 ?restt0sf0
          case hit0sf0 => simp only [List.getElem?_toArray, List.getElem?_cons_zero]; rfl
          case hwt0sf0 => rfl
          case hyt0sf0 => intro W hW; go_simp; with_reducible rfl
          simp only [Act.put, List.setIfInBounds_toArray, List.set_cons_zero, List.set_cons_succ]
          refine ext_take (i := 1) (oi := ?oit0sf1) (v := ?vt0sf1) ?hit0sf1 (by kernel_rfl) (by kernel_rfl) (by kernel_rfl) hQ ?hwt0sf1 ?hyt0sf1 ?restt0sf1
          case hit0sf1 => simp only [List.getElem?_toArray, List.getElem?_cons_zero, List.getElem?_cons_succ]; rfl
          case hwt0sf1 => rfl
          case hyt0sf1 => intro W hW; go_simp; with_reducible rfl
          simp only [Act.put, List.setIfInBounds_toArray, List.set_cons_zero, List.set_cons_succ]
          refine ext_skip (i := 2) (oi := ?oit0sf2) ?hit0sf2 (by kernel_rfl) (by kernel_rfl) (by kernel_rfl) hQ ?hwt0sf2 ?restt0sf2
          case hit0sf2 => simp only [List.getElem?_toArray, List.getElem?_cons_zero, List.getElem?_cons_succ]; rfl
          case hwt0sf2 => rfl
          simp only [Act.put, List.setIfInBounds_toArray, List.set_cons_zero, List.set_cons_succ]
          refine ext_skip (i := 3) (oi := ?oit0sf3) ?hit0sf3 (by kernel_rfl) (by kernel_rfl) (by kernel_rfl) hQ ?hwt0sf3 ?restt0sf3
          case hit0sf3 => simp only [List.getElem?_toArray, List.getElem?_cons_zero, List.getElem?_cons_succ]; rfl
          case hwt0sf3 => rfl
          simp only [Act.put, List.setIfInBounds_toArray, List.set_cons_zero, List.set_cons_succ]
          refine ext_skip (i := 4) (oi := ?oit0sf4) ?hit0sf4 (by kernel_rfl) (by kernel_rfl) (by kernel_rfl) hQ ?hwt0sf4 ?restt0sf4
          case hit0sf4 => simp only [List.getElem?_toArray, List.getElem?_cons_zero, List.getElem?_cons_succ]; rfl
          case hwt0sf4 => rfl
          simp only [Act.put, List.setIfInBounds_toArray, List.set_cons_zero, List.set_cons_succ]
          refine ext_skip (i := 5) (oi := ?oit0sf5) ?hit0sf5 (by kernel_rfl) (by kernel_rfl) (by kernel_rfl) hQ ?hwt0sf5 ?restt0sf5
          case hit0sf5 => simp only [List.getElem?_toArray, List.getElem?_cons_zero, List.getElem?_cons_succ]; rfl
          case hwt0sf5 => rfl
          simp only [Act.put, List.setIfInBounds_toArray, List.set_cons_zero, List.set_cons_succ]
          refine ext_skip (i := 6) (oi := ?oit0sf6) ?hit0sf6 (by kernel_rfl) (by kernel_rfl) (by kernel_rfl) hQ ?hwt0sf6 ?restt0sf6
          case hit0sf6 => simp only [List.getElem?_toArray, List.getElem?_cons_zero, List.getElem?_cons_succ]; rfl
          case hwt0sf6 => rfl
          simp only [Act.put, List.setIfInBounds_toArray, List.set_cons_zero, List.set_cons_succ]
          refine ext_skip (i := 7) (oi := ?oit0sf7) ?hit0sf7 (by kernel_rfl) (by kernel_rfl) (by kernel_rfl) hQ ?hwt0sf7 ?restt0sf7
          case hit0sf7 => simp only [List.getElem?_toArray, List.getElem?_cons_zero, List.getElem?_cons_succ]; rfl
          case hwt0sf7 => rfl
          simp only [Act.put, List.setIfInBounds_toArray, List.set_cons_zero, List.set_cons_succ]
          refine ext_skip (i := 8) (oi := ?oit0sf8) ?hit0sf8 (by kernel_rfl) (by kernel_rfl) (by kernel_rfl) hQ ?hwt0sf8 ?restt0sf8
          case hit0sf8 => simp only [List.getElem?_toArray, List.getElem?_cons_zero, List.getElem?_cons_succ]; rfl
          case hwt0sf8 => rfl
          simp only [Act.put, List.setIfInBounds_toArray, List.set_cons_zero, List.set_cons_succ]
          refine ext_take (i := 9) (oi := ?oit0sf9) (v := ?vt0sf9) ?hit0sf9 (by kernel_rfl) (by kernel_rfl) (by kernel_rfl) hQ ?hwt0sf9 ?hyt0sf9 ?restt0sf9
          case hit0sf9 => simp only [List.getElem?_toArray, List.getElem?_cons_zero, List.getElem?_cons_succ]; rfl
          case hwt0sf9 => rfl
          case hyt0sf9 => intro W hW; go_simp; with_reducible rfl
          simp only [Act.put, List.setIfInBounds_toArray, List.set_cons_zero, List.set_cons_succ]
          refine ext_take (i := 10) (oi := ?oit0sf10) (v := ?vt0sf10) ?hit0sf10 (by kernel_rfl) (by kernel_rfl) (by kernel_rfl) hQ ?hwt0sf10 ?hyt0sf10 ?restt0sf10
          case hit0sf10 => simp only [List.getElem?_toArray, List.getElem?_cons_zero, List.getElem?_cons_succ]; rfl
          case hwt0sf10 => rfl
          case hyt0sf10 => intro W hW; go_simp; with_reducible rfl
          simp only [Act.put, List.setIfInBounds_toArray, List.set_cons_zero, List.set_cons_succ]
          refine wpAnyH_done (by kernel_rfl) ?_ _
          simp only [NoP]
          clear X_ho_0 X_ho_1 X_ho_2
          go_wp2_with fail
          go_roundw
          case rel => exact ⟨1, p + s, (hlf u), (0), (0), (false), by omega, rfl, by go_num, by omega, fun _ => ⟨rfl, rfl, (by have h := HOK.out; rw [hdv, hfin] at h; exact h)⟩, by omega, by omega, (by repeat (first | with_reducible exact h2 | with_reducible (apply Blk.set_) | with_reducible (apply Blk.far; case hp => (simp <;> omega)) | with_reducible (apply Blk.alloc) | with_reducible (apply Blk.drew))), (by repeat (first | with_reducible exact h3 | with_reducible (apply Blk.set_) | with_reducible (apply Blk.far; case hp => (simp <;> omega)) | with_reducible (apply Blk.alloc) | with_reducible (apply Blk.drew))), (by repeat (first | with_reducible exact hn | with_reducible (apply Blk.set_) | with_reducible (apply Blk.far; case hp => (simp <;> omega)) | with_reducible (apply Blk.alloc) | with_reducible (apply Blk.drew))), (by repeat (first | with_reducible exact ho | with_reducible (apply Blk.set_) | with_reducible (apply Blk.far; case hp => (simp <;> omega)) | with_reducible (apply Blk.alloc) | with_reducible (apply Blk.drew))), (by have hs_ := hB.size; repeat (first | with_reducible exact hB | with_reducible (refine Below.setCell ?_ (by simp <;> omega) _) | with_reducible (refine Below.alloc ?_ (by first | exact hs_ | (simp <;> omega)) _) | with_reducible (refine Below.drew ?_)))⟩
          case measure => simp [intOf]
        · have hfin : (true && rdg l k0 p) = ftR (k0.toNat : Int) (hlf u) := by rw [HDG.out, hsg, hdv]; simp
          have z949 : x3.cell? ⟨(w.heap.size + 4), 0, none⟩ = some (.int .i64 0) := (ho.cell 0).trans rfl
          have z950 := ho.frozen 0
          have z951 : x3.cell? ⟨(w.heap.size + 4), 1, none⟩ = some (.int .i64 0) := (ho.cell 1).trans rfl
          have z952 := ho.frozen 1
          have z953 : x3.cell? ⟨(w.heap.size + 4), 2, none⟩ = some (.int .i64 0) := (ho.cell 2).trans rfl
          have z954 := ho.frozen 2
          have z955 := h2.lt
          have z956 := h3.lt
          have z957 := hn.lt
          have z958 := ho.lt
          go_wp2_with fail
          clear z949 z950 z951 z952 z953 z954 z955 z956 z957 z958
          replace ho : Blk (x3.setCell ⟨w.heap.size + 4, 0, none⟩ (.int .i64 (hlf u))) (w.heap.size + 4) 58 #[.int .i64 (hlf u), .int .i64 0, .int .i64 0] := ho.set_ 0 (.int .i64 (hlf u))
          replace h2 := h2.far (p := ⟨w.heap.size + 4, 0, none⟩) (by simp <;> omega) (.int .i64 (hlf u))
          replace h3 := h3.far (p := ⟨w.heap.size + 4, 0, none⟩) (by simp <;> omega) (.int .i64 (hlf u))
          replace hn := hn.far (p := ⟨w.heap.size + 4, 0, none⟩) (by simp <;> omega) (.int .i64 (hlf u))
          replace hB := hB.setCell (p := ⟨w.heap.size + 4, 0, none⟩) (by simp <;> omega) (.int .i64 (hlf u))
          generalize (x3.setCell ⟨w.heap.size + 4, 0, none⟩ (.int .i64 (hlf u))) = x8 at *
          refine nop_wp (ext_start (by kernel_rfl) calm_nop (fun hQ => ?_))
          replace h2 : Blk x8.drew (w.heap.size + 1) 39 #[.slice none 0 0, .int .i64 0] := (by repeat (first | with_reducible exact h2 | with_reducible (apply Blk.set_) | with_reducible (apply Blk.far; case hp => (simp <;> omega)) | with_reducible (apply Blk.alloc) | with_reducible (apply Blk.drew)))
          replace h3 : Blk x8.drew (w.heap.size + 2) 23 #[.int .u8 0, .int .i64 0, .int .i64 0, .int .i64 0] := (by repeat (first | with_reducible exact h3 | with_reducible (apply Blk.set_) | with_reducible (apply Blk.far; case hp => (simp <;> omega)) | with_reducible (apply Blk.alloc) | with_reducible (apply Blk.drew)))
          replace hn : Blk x8.drew (w.heap.size + 3) 39 #[.slice (some ad) n c, .int .i64 ((p + s : Nat) : Int)] := (by repeat (first | with_reducible exact hn | with_reducible (apply Blk.set_) | with_reducible (apply Blk.far; case hp => (simp <;> omega)) | with_reducible (apply Blk.alloc) | with_reducible (apply Blk.drew)))
          replace ho : Blk x8.drew (w.heap.size + 4) 58 #[.int .i64 (hlf u), .int .i64 0, .int .i64 0] := (by repeat (first | with_reducible exact ho | with_reducible (apply Blk.set_) | with_reducible (apply Blk.far; case hp => (simp <;> omega)) | with_reducible (apply Blk.alloc) | with_reducible (apply Blk.drew)))
          replace hB : Below w.heap.size w x8.drew := Below.drew (by have hs_ := hB.size; repeat (first | with_reducible exact hB | with_reducible (refine Below.setCell ?_ (by simp <;> omega) _) | with_reducible (refine Below.alloc ?_ (by first | exact hs_ | (simp <;> omega)) _) | with_reducible (refine Below.drew ?_)))
          generalize x8.drew = x9 at *
          have X_ho_0 : ∀ W, Ext x9 W → W.cell? ⟨(w.heap.size + 4), 0, none⟩ = some (.int .i64 (hlf u)) := fun W h_ => ((ho.below h_ ho.lt).cell 0).trans rfl
          have X_ho_1 : ∀ W, Ext x9 W → W.cell? ⟨(w.heap.size + 4), 1, none⟩ = some (.int .i64 0) := fun W h_ => ((ho.below h_ ho.lt).cell 1).trans rfl
          have X_ho_2 : ∀ W, Ext x9 W → W.cell? ⟨(w.heap.size + 4), 2, none⟩ = some (.int .i64 0) := fun W h_ => ((ho.below h_ ho.lt).cell 2).trans rfl
          refine ext_take (i := 0) (oi := ?oit0st0) (v := ?vt0st0) ?hit0st0 (by kernel_rfl) (by kernel_rfl) (by kernel_rfl) hQ ?hwt0st0 ?hyt0st0 ?restt0st0
          case hit0st0 => simp only [List.getElem?_toArray, List.getElem?_cons_zero]; rfl
          case hwt0st0 => rfl
          case hyt0st0 => intro W hW; go_simp; with_reducible rfl
          simp only [Act.put, List.setIfInBounds_toArray, List.set_cons_zero, List.set_cons_succ]
          refine ext_take (i := 1) (oi := ?oit0st1) (v := ?vt0st1) ?hit0st1 (by kernel_rfl) (by kernel_rfl) (by kernel_rfl) hQ ?hwt0st1 ?hyt0st1 ?restt0st1
          case hit0st1 => simp only [List.getElem?_toArray, List.getElem?_cons_zero, List.getElem?_cons_succ]; rfl
          case hwt0st1 => rfl
          case hyt0st1 => intro W hW; go_simp; with_reducible rfl
          simp only [Act.put, List.setIfInBounds_toArray, List.set_cons_zero, List.set_cons_succ]
          refine ext_take (i := 2) (oi := ?oit0st2) (v := ?vt0st2) ?hit0st2 (by kernel_rfl) (by kernel_rfl) (by kernel_rfl) hQ ?hwt0st2 ?hyt0st2 ?restt0st2
          case hit0st2 => simp only [List.getElem?_toArray, List.getElem?_cons_zero, List.getElem?_cons_succ]; rfl
          case hwt0st2 => rfl
          case hyt0st2 => intro W hW; go_simp; with_reducible rfl
          simp only [Act.put, List.setIfInBounds_toArray, List.set_cons_zero, List.set_cons_succ]
          refine ext_take (i := 3) (oi := ?oit0st3) (v := ?vt0st3) ?hit0st3 (by kernel_rfl) (by kernel_rfl) (by kernel_rfl) hQ ?hwt0st3 ?hyt0st3 ?restt0st3
          case hit0st3 => simp only [List.getElem?_toArray, List.getElem?_cons_zero, List.getElem?_cons_succ]; rfl
          case hwt0st3 => rfl
          case hyt0st3 => intro W hW; go_simp; with_reducible rfl
          simp only [Act.put, List.setIfInBounds_toArray, List.set_cons_zero, List.set_cons_succ]
          refine ext_take (i := 4) (oi := ?oit0st4) (v := ?vt0st4) ?hit0st4 (by kernel_rfl) (by kernel_rfl) (by kernel_rfl) hQ ?hwt0st4 ?hyt0st4 ?restt0st4
          case hit0st4 => simp only [List.getElem?_toArray, List.getElem?_cons_zero, List.getElem?_cons_succ]; rfl
          case hwt0st4 => rfl
          case hyt0st4 => intro W hW; go_simp; with_reducible rfl
          simp only [Act.put, List.setIfInBounds_toArray, List.set_cons_zero, List.set_cons_succ]
          refine ext_take (i := 5) (oi := ?oit0st5) (v := ?vt0st5) ?hit0st5 (by kernel_rfl) (by kernel_rfl) (by kernel_rfl) hQ ?hwt0st5 ?hyt0st5 ?restt0st5
          case hit0st5 => simp only [List.getElem?_toArray, List.getElem?_cons_zero, List.getElem?_cons_succ]; rfl
          case hwt0st5 => rfl
          case hyt0st5 => intro W hW; go_simp; with_reducible rfl
          simp only [Act.put, List.setIfInBounds_toArray, List.set_cons_zero, List.set_cons_succ]
          refine ext_take (i := 6) (oi := ?oit0st6) (v := ?vt0st6) ?hit0st6 (by kernel_rfl) (by kernel_rfl) (by kernel_rfl) hQ ?hwt0st6 ?hyt0st6 ?restt0st6
          case hit0st6 => simp only [List.getElem?_toArray, List.getElem?_cons_zero, List.getElem?_cons_succ]; rfl
          case hwt0st6 => rfl
          case hyt0st6 => intro W hW; go_simp; with_reducible rfl
          simp only [Act.put, List.setIfInBounds_toArray, List.set_cons_zero, List.set_cons_succ]
          refine ext_take (i := 7) (oi := ?oit0st7) (v := ?vt0st7) ?hit0st7 (by kernel_rfl) (by kernel_rfl) (by kernel_rfl) hQ ?hwt0st7 ?hyt0st7 ?restt0st7
          case hit0st7 => simp only [List.getElem?_toArray, List.getElem?_cons_zero, List.getElem?_cons_succ]; rfl
          case hwt0st7 => rfl
          case hyt0st7 => intro W hW; go_simp; with_reducible rfl
          simp only [Act.put, List.setIfInBounds_toArray, List.set_cons_zero, List.set_cons_succ]
          refine ext_step (i := 8) (oi := ?oit0st8) (by kernel_rfl) ?hit0st8 ?hwt0st8 (fun K hK => ?_)
          case hit0st8 => simp only [List.getElem?_toArray, List.getElem?_cons_zero, List.getElem?_cons_succ]; rfl
          case hwt0st8 => rfl
          go_simp
          refine (ftR_b k0 (hlf u) hrg _).mono ?_; rintro e wq ⟨rfl, rfl⟩; refine hK _ _ (Ext.refl _) ?_
          try simp only [Act.put, List.setIfInBounds_toArray, List.set_cons_zero, List.set_cons_succ]
          refine ext_take (i := 9) (oi := ?oit0st9) (v := ?vt0st9) ?hit0st9 (by kernel_rfl) (by kernel_rfl) (by kernel_rfl) hQ ?hwt0st9 ?hyt0st9 ?restt0st9
          case hit0st9 => simp only [List.getElem?_toArray, List.getElem?_cons_zero, List.getElem?_cons_succ]; rfl
          case hwt0st9 => rfl
          case hyt0st9 => intro W hW; go_simp; with_reducible rfl
          simp only [Act.put, List.setIfInBounds_toArray, List.set_cons_zero, List.set_cons_succ]
          refine ext_take (i := 10) (oi := ?oit0st10) (v := ?vt0st10) ?hit0st10 (by kernel_rfl) (by kernel_rfl) (by kernel_rfl) hQ ?hwt0st10 ?hyt0st10 ?restt0st10
          case hit0st10 => simp only [List.getElem?_toArray, List.getElem?_cons_zero, List.getElem?_cons_succ]; rfl
          case hwt0st10 => rfl
          case hyt0st10 => intro W hW; go_simp; with_reducible rfl
          simp only [Act.put, List.setIfInBounds_toArray, List.set_cons_zero, List.set_cons_succ]
          refine wpAnyH_done (by kernel_rfl) ?_ _
          simp only [NoP]
          clear X_ho_0 X_ho_1 X_ho_2
          go_wp2_with fail
          go_roundw
          case rel => exact ⟨1, p + s, (hlf u), (0), (0), (ftR (k0.toNat : Int) (hlf u)), by omega, rfl, by go_num, by omega, fun _ => ⟨rfl, rfl, (by have h := HOK.out; rw [hdv, hfin] at h; exact h)⟩, by omega, by omega, (by repeat (first | with_reducible exact h2 | with_reducible (apply Blk.set_) | with_reducible (apply Blk.far; case hp => (simp <;> omega)) | with_reducible (apply Blk.alloc) | with_reducible (apply Blk.drew))), (by repeat (first | with_reducible exact h3 | with_reducible (apply Blk.set_) | with_reducible (apply Blk.far; case hp => (simp <;> omega)) | with_reducible (apply Blk.alloc) | with_reducible (apply Blk.drew))), (by repeat (first | with_reducible exact hn | with_reducible (apply Blk.set_) | with_reducible (apply Blk.far; case hp => (simp <;> omega)) | with_reducible (apply Blk.alloc) | with_reducible (apply Blk.drew))), (by repeat (first | with_reducible exact ho | with_reducible (apply Blk.set_) | with_reducible (apply Blk.far; case hp => (simp <;> omega)) | with_reducible (apply Blk.alloc) | with_reducible (apply Blk.drew))), (by have hs_ := hB.size; repeat (first | with_reducible exact hB | with_reducible (refine Below.setCell ?_ (by simp <;> omega) _) | with_reducible (refine Below.alloc ?_ (by first | exact hs_ | (simp <;> omega)) _) | with_reducible (refine Below.drew ?_)))⟩
          case measure => simp [intOf]
      · replace hsg : sgR (k0.toNat : Int) = false := by simpa using hsg
        rw [hsg]
        have hdv : rdv l k0 p = (u : Int) % 1000 := by rw [HDV.out, hsg]; rfl
        have hrg : -9223372036854775808 ≤ (u : Int) % 1000 ∧ (u : Int) % 1000 ≤ 9223372036854775807 := by omega
        cases f
        · have hfin : (false && rdg l k0 p) = false := rfl
          have z939 : x2.cell? ⟨(w.heap.size + 4), 0, none⟩ = some (.int .i64 0) := (ho.cell 0).trans rfl
          have z940 := ho.frozen 0
          have z941 : x2.cell? ⟨(w.heap.size + 4), 1, none⟩ = some (.int .i64 0) := (ho.cell 1).trans rfl
          have z942 := ho.frozen 1
          have z943 : x2.cell? ⟨(w.heap.size + 4), 2, none⟩ = some (.int .i64 0) := (ho.cell 2).trans rfl
          have z944 := ho.frozen 2
          have z945 := h2.lt
          have z946 := h3.lt
          have z947 := hn.lt
          have z948 := ho.lt
          go_wp2_with fail
          clear z939 z940 z941 z942 z943 z944 z945 z946 z947 z948
          replace ho : Blk (x2.setCell ⟨w.heap.size + 4, 0, none⟩ (.int .i64 ((u : Int) % 1000))) (w.heap.size + 4) 58 #[.int .i64 ((u : Int) % 1000), .int .i64 0, .int .i64 0] := ho.set_ 0 (.int .i64 ((u : Int) % 1000))
          replace h2 := h2.far (p := ⟨w.heap.size + 4, 0, none⟩) (by simp <;> omega) (.int .i64 ((u : Int) % 1000))
          replace h3 := h3.far (p := ⟨w.heap.size + 4, 0, none⟩) (by simp <;> omega) (.int .i64 ((u : Int) % 1000))
          replace hn := hn.far (p := ⟨w.heap.size + 4, 0, none⟩) (by simp <;> omega) (.int .i64 ((u : Int) % 1000))
          replace hB := hB.setCell (p := ⟨w.heap.size + 4, 0, none⟩) (by simp <;> omega) (.int .i64 ((u : Int) % 1000))
          generalize (x2.setCell ⟨w.heap.size + 4, 0, none⟩ (.int .i64 ((u : Int) % 1000))) = x8 at *
          refine nop_wp (ext_start (by kernel_rfl) calm_nop (fun hQ => ?_))
          replace h2 : Blk x8.drew (w.heap.size + 1) 39 #[.slice none 0 0, .int .i64 0] := (by repeat (first | with_reducible exact h2 | with_reducible (apply Blk.set_) | with_reducible (apply Blk.far; case hp => (simp <;> omega)) | with_reducible (apply Blk.alloc) | with_reducible (apply Blk.drew)))
          replace h3 : Blk x8.drew (w.heap.size + 2) 23 #[.int .u8 0, .int .i64 0, .int .i64 0, .int .i64 0] := (by repeat (first | with_reducible exact h3 | with_reducible (apply Blk.set_) | with_reducible (apply Blk.far; case hp => (simp <;> omega)) | with_reducible (apply Blk.alloc) | with_reducible (apply Blk.drew)))
          replace hn : Blk x8.drew (w.heap.size + 3) 39 #[.slice (some ad) n c, .int .i64 ((p + s : Nat) : Int)] := (by repeat (first | with_reducible exact hn | with_reducible (apply Blk.set_) | with_reducible (apply Blk.far; case hp => (simp <;> omega)) | with_reducible (apply Blk.alloc) | with_reducible (apply Blk.drew)))
          replace ho : Blk x8.drew (w.heap.size + 4) 58 #[.int .i64 ((u : Int) % 1000), .int .i64 0, .int .i64 0] := (by repeat (first | with_reducible exact ho | with_reducible (apply Blk.set_) | with_reducible (apply Blk.far; case hp => (simp <;> omega)) | with_reducible (apply Blk.alloc) | with_reducible (apply Blk.drew)))
          replace hB : Below w.heap.size w x8.drew := Below.drew (by have hs_ := hB.size; repeat (first | with_reducible exact hB | with_reducible (refine Below.setCell ?_ (by simp <;> omega) _) | with_reducible (refine Below.alloc ?_ (by first | exact hs_ | (simp <;> omega)) _) | with_reducible (refine Below.drew ?_)))
          generalize x8.drew = x9 at *
          have X_ho_0 : ∀ W, Ext x9 W → W.cell? ⟨(w.heap.size + 4), 0, none⟩ = some (.int .i64 ((u : Int) % 1000)) := fun W h_ => ((ho.below h_ ho.lt).cell 0).trans rfl
          have X_ho_1 : ∀ W, Ext x9 W → W.cell? ⟨(w.heap.size + 4), 1, none⟩ = some (.int .i64 0) := fun W h_ => ((ho.below h_ ho.lt).cell 1).trans rfl
          have X_ho_2 : ∀ W, Ext x9 W → W.cell? ⟨(w.heap.size + 4), 2, none⟩ = some (.int .i64 0) := fun W h_ => ((ho.below h_ ho.lt).cell 2).trans rfl
          refine ext_take (i := 0) (oi := ?oit0uf0) (v := ?vt0uf0) ?hit0uf0 (by kernel_rfl) (by kernel_rfl) (by kernel_rfl) hQ ?hwt0uf0 ?hyt0uf0 ?restt0uf0
          case hit0uf0 => simp only [List.getElem?_toArray, List.getElem?_cons_zero]; rfl
          case hwt0uf0 => rfl
          case hyt0uf0 => intro W hW; go_simp; with_reducible rfl
          simp only [Act.put, List.setIfInBounds_toArray, List.set_cons_zero, List.set_cons_succ]
          refine ext_take (i := 1) (oi := ?oit0uf1) (v := ?vt0uf1) ?hit0uf1 (by kernel_rfl) (by kernel_rfl) (by kernel_rfl) hQ ?hwt0uf1 ?hyt0uf1 ?restt0uf1
          case hit0uf1 => simp only [List.getElem?_toArray, List.getElem?_cons_zero, List.getElem?_cons_succ]; rfl
          case hwt0uf1 => rfl
          case hyt0uf1 => intro W hW; go_simp; with_reducible rfl
          simp only [Act.put, List.setIfInBounds_toArray, List.set_cons_zero, List.set_cons_succ]
          refine ext_skip (i := 2) (oi := ?oit0uf2) ?hit0uf2 (by kernel_rfl) (by kernel_rfl) (by kernel_rfl) hQ ?hwt0uf2 ?restt0uf2
          case hit0uf2 => simp only [List.getElem?_toArray, List.getElem?_cons_zero, List.getElem?_cons_succ]; rfl
          case hwt0uf2 => rfl
          simp only [Act.put, List.setIfInBounds_toArray, List.set_cons_zero, List.set_cons_succ]
          refine ext_skip (i := 3) (oi := ?oit0uf3) ?hit0uf3 (by kernel_rfl) (by kernel_rfl) (by kernel_rfl) hQ ?hwt0uf3 ?restt0uf3
          case hit0uf3 => simp only [List.getElem?_toArray, List.getElem?_cons_zero, List.getElem?_cons_succ]; rfl
          case hwt0uf3 => rfl
          simp only [Act.put, List.setIfInBounds_toArray, List.set_cons_zero, List.set_cons_succ]
          refine ext_skip (i := 4) (oi := ?oit0uf4) ?hit0uf4 (by kernel_rfl) (by kernel_rfl) (by kernel_rfl) hQ ?hwt0uf4 ?restt0uf4
          case hit0uf4 => simp only [List.getElem?_toArray, List.getElem?_cons_zero, List.getElem?_cons_succ]; rfl
          case hwt0uf4 => rfl
          simp only [Act.put, List.setIfInBounds_toArray, List.set_cons_zero, List.set_cons_succ]
          refine ext_skip (i := 5) (oi := ?oit0uf5) ?hit0uf5 (by kernel_rfl) (by kernel_rfl) (by kernel_rfl) hQ ?hwt0uf5 ?restt0uf5
          case hit0uf5 => simp only [List.getElem?_toArray, List.getElem?_cons_zero, List.getElem?_cons_succ]; rfl
          case hwt0uf5 => rfl
          simp only [Act.put, List.setIfInBounds_toArray, List.set_cons_zero, List.set_cons_succ]
          refine ext_skip (i := 6) (oi := ?oit0uf6) ?hit0uf6 (by kernel_rfl) (by kernel_rfl) (by kernel_rfl) hQ ?hwt0uf6 ?restt0uf6
          case hit0uf6 => simp only [List.getElem?_toArray, List.getElem?_cons_zero, List.getElem?_cons_succ]; rfl
          case hwt0uf6 => rfl
          simp only [Act.put, List.setIfInBounds_toArray, List.set_cons_zero, List.set_cons_succ]
          refine ext_skip (i := 7) (oi := ?oit0uf7) ?hit0uf7 (by kernel_rfl) (by kernel_rfl) (by kernel_rfl) hQ ?hwt0uf7 ?restt0uf7
          case hit0uf7 => simp only [List.getElem?_toArray, List.getElem?_cons_zero, List.getElem?_cons_succ]; rfl
          case hwt0uf7 => rfl
          simp only [Act.put, List.setIfInBounds_toArray, List.set_cons_zero, List.set_cons_succ]
          refine ext_skip (i := 8) (oi := ?oit0uf8) ?hit0uf8 (by kernel_rfl) (by kernel_rfl) (by kernel_rfl) hQ ?hwt0uf8 ?restt0uf8
          case hit0uf8 => simp only [List.getElem?_toArray, List.getElem?_cons_zero, List.getElem?_cons_succ]; rfl
          case hwt0uf8 => rfl
          simp only [Act.put, List.setIfInBounds_toArray, List.set_cons_zero, List.set_cons_succ]
          refine ext_take (i := 9) (oi := ?oit0uf9) (v := ?vt0uf9) ?hit0uf9 (by kernel_rfl) (by kernel_rfl) (by kernel_rfl) hQ ?hwt0uf9 ?hyt0uf9 ?restt0uf9
          case hit0uf9 => simp only [List.getElem?_toArray, List.getElem?_cons_zero, List.getElem?_cons_succ]; rfl
          case hwt0uf9 => rfl
          case hyt0uf9 => intro W hW; go_simp; with_reducible rfl
          simp only [Act.put, List.setIfInBounds_toArray, List.set_cons_zero, List.set_cons_succ]
          refine ext_take (i := 10) (oi := ?oit0uf10) (v := ?vt0uf10) ?hit0uf10 (by kernel_rfl) (by kernel_rfl) (by kernel_rfl) hQ ?hwt0uf10 ?hyt0uf10 ?restt0uf10
          case hit0uf10 => simp only [List.getElem?_toArray, List.getElem?_cons_zero, List.getElem?_cons_succ]; rfl
          case hwt0uf10 => rfl
          case hyt0uf10 => intro W hW; go_simp; with_reducible rfl
          simp only [Act.put, List.setIfInBounds_toArray, List.set_cons_zero, List.set_cons_succ]
          refine wpAnyH_done (by kernel_rfl) ?_ _
          simp only [NoP]
          clear X_ho_0 X_ho_1 X_ho_2
          go_wp2_with fail
          go_roundw
          case rel => exact ⟨1, p + s, ((u : Int) % 1000), (0), (0), (false), by omega, rfl, by go_num, by omega, fun _ => ⟨rfl, rfl, (by have h := HOK.out; rw [hdv, hfin] at h; exact h)⟩, by omega, by omega, (by repeat (first | with_reducible exact h2 | with_reducible (apply Blk.set_) | with_reducible (apply Blk.far; case hp => (simp <;> omega)) | with_reducible (apply Blk.alloc) | with_reducible (apply Blk.drew))), (by repeat (first | with_reducible exact h3 | with_reducible (apply Blk.set_) | with_reducible (apply Blk.far; case hp => (simp <;> omega)) | with_reducible (apply Blk.alloc) | with_reducible (apply Blk.drew))), (by repeat (first | with_reducible exact hn | with_reducible (apply Blk.set_) | with_reducible (apply Blk.far; case hp => (simp <;> omega)) | with_reducible (apply Blk.alloc) | with_reducible (apply Blk.drew))), (by repeat (first | with_reducible exact ho | with_reducible (apply Blk.set_) | with_reducible (apply Blk.far; case hp => (simp <;> omega)) | with_reducible (apply Blk.alloc) | with_reducible (apply Blk.drew))), (by have hs_ := hB.size; repeat (first | with_reducible exact hB | with_reducible (refine Below.setCell ?_ (by simp <;> omega) _) | with_reducible (refine Below.alloc ?_ (by first | exact hs_ | (simp <;> omega)) _) | with_reducible (refine Below.drew ?_)))⟩
          case measure => simp [intOf]
        by_cases huc : u < 1000
        · have d1 : decide ((u : Int) < 1000) = true := by simp; omega
          have hfin : (true && rdg l k0 p) = ftR (k0.toNat : Int) ((u : Int) % 1000) := by rw [HDG.out, hsg, hdv]; simp [huc]
          have z939 : x2.cell? ⟨(w.heap.size + 4), 0, none⟩ = some (.int .i64 0) := (ho.cell 0).trans rfl
          have z940 := ho.frozen 0
          have z941 : x2.cell? ⟨(w.heap.size + 4), 1, none⟩ = some (.int .i64 0) := (ho.cell 1).trans rfl
          have z942 := ho.frozen 1
          have z943 : x2.cell? ⟨(w.heap.size + 4), 2, none⟩ = some (.int .i64 0) := (ho.cell 2).trans rfl
          have z944 := ho.frozen 2
          have z945 := h2.lt
          have z946 := h3.lt
          have z947 := hn.lt
          have z948 := ho.lt
          go_wp2_with fail
          clear z939 z940 z941 z942 z943 z944 z945 z946 z947 z948
          replace ho : Blk (x2.setCell ⟨w.heap.size + 4, 0, none⟩ (.int .i64 ((u : Int) % 1000))) (w.heap.size + 4) 58 #[.int .i64 ((u : Int) % 1000), .int .i64 0, .int .i64 0] := ho.set_ 0 (.int .i64 ((u : Int) % 1000))
          replace h2 := h2.far (p := ⟨w.heap.size + 4, 0, none⟩) (by simp <;> omega) (.int .i64 ((u : Int) % 1000))
          replace h3 := h3.far (p := ⟨w.heap.size + 4, 0, none⟩) (by simp <;> omega) (.int .i64 ((u : Int) % 1000))
          replace hn := hn.far (p := ⟨w.heap.size + 4, 0, none⟩) (by simp <;> omega) (.int .i64 ((u : Int) % 1000))
          replace hB := hB.setCell (p := ⟨w.heap.size + 4, 0, none⟩) (by simp <;> omega) (.int .i64 ((u : Int) % 1000))
          generalize (x2.setCell ⟨w.heap.size + 4, 0, none⟩ (.int .i64 ((u : Int) % 1000))) = x8 at *
          refine nop_wp (ext_start (by kernel_rfl) calm_nop (fun hQ => ?_))
          replace h2 : Blk x8.drew (w.heap.size + 1) 39 #[.slice none 0 0, .int .i64 0] := (by repeat (first | with_reducible exact h2 | with_reducible (apply Blk.set_) | with_reducible (apply Blk.far; case hp => (simp <;> omega)) | with_reducible (apply Blk.alloc) | with_reducible (apply Blk.drew)))
          replace h3 : Blk x8.drew (w.heap.size + 2) 23 #[.int .u8 0, .int .i64 0, .int .i64 0, .int .i64 0] := (by repeat (first | with_reducible exact h3 | with_reducible (apply Blk.set_) | with_reducible (apply Blk.far; case hp => (simp <;> omega)) | with_reducible (apply Blk.alloc) | with_reducible (apply Blk.drew)))
          replace hn : Blk x8.drew (w.heap.size + 3) 39 #[.slice (some ad) n c, .int .i64 ((p + s : Nat) : Int)] := (by repeat (first | with_reducible exact hn | with_reducible (apply Blk.set_) | with_reducible (apply Blk.far; case hp => (simp <;> omega)) | with_reducible (apply Blk.alloc) | with_reducible (apply Blk.drew)))
          replace ho : Blk x8.drew (w.heap.size + 4) 58 #[.int .i64 ((u : Int) % 1000), .int .i64 0, .int .i64 0] := (by repeat (first | with_reducible exact ho | with_reducible (apply Blk.set_) | with_reducible (apply Blk.far; case hp => (simp <;> omega)) | with_reducible (apply Blk.alloc) | with_reducible (apply Blk.drew)))
          replace hB : Below w.heap.size w x8.drew := Below.drew (by have hs_ := hB.size; repeat (first | with_reducible exact hB | with_reducible (refine Below.setCell ?_ (by simp <;> omega) _) | with_reducible (refine Below.alloc ?_ (by first | exact hs_ | (simp <;> omega)) _) | with_reducible (refine Below.drew ?_)))
          generalize x8.drew = x9 at *
          have X_ho_0 : ∀ W, Ext x9 W → W.cell? ⟨(w.heap.size + 4), 0, none⟩ = some (.int .i64 ((u : Int) % 1000)) := fun W h_ => ((ho.below h_ ho.lt).cell 0).trans rfl
          have X_ho_1 : ∀ W, Ext x9 W → W.cell? ⟨(w.heap.size + 4), 1, none⟩ = some (.int .i64 0) := fun W h_ => ((ho.below h_ ho.lt).cell 1).trans rfl
          have X_ho_2 : ∀ W, Ext x9 W → W.cell? ⟨(w.heap.size + 4), 2, none⟩ = some (.int .i64 0) := fun W h_ => ((ho.below h_ ho.lt).cell 2).trans rfl
          refine ext_take (i := 0) (oi := ?oit0utlt0) (v := ?vt0utlt0) ?hit0utlt0 (by kernel_rfl) (by kernel_rfl) (by kernel_rfl) hQ ?hwt0utlt0 ?hyt0utlt0 ?restt0utlt0
          case hit0utlt0 => simp only [List.getElem?_toArray, List.getElem?_cons_zero]; rfl
          case hwt0utlt0 => rfl
          case hyt0utlt0 => intro W hW; go_simp; with_reducible rfl
          simp only [Act.put, List.setIfInBounds_toArray, List.set_cons_zero, List.set_cons_succ]
          refine ext_take (i := 1) (oi := ?oit0utlt1) (v := ?vt0utlt1) ?hit0utlt1 (by kernel_rfl) (by kernel_rfl) (by kernel_rfl) hQ ?hwt0utlt1 ?hyt0utlt1 ?restt0utlt1
          case hit0utlt1 => simp only [List.getElem?_toArray, List.getElem?_cons_zero, List.getElem?_cons_succ]; rfl
          case hwt0utlt1 => rfl
          case hyt0utlt1 => intro W hW; go_simp; with_reducible rfl
          simp only [Act.put, List.setIfInBounds_toArray, List.set_cons_zero, List.set_cons_succ]
          refine ext_take (i := 2) (oi := ?oit0utlt2) (v := ?vt0utlt2) ?hit0utlt2 (by kernel_rfl) (by kernel_rfl) (by kernel_rfl) hQ ?hwt0utlt2 ?hyt0utlt2 ?restt0utlt2
          case hit0utlt2 => simp only [List.getElem?_toArray, List.getElem?_cons_zero, List.getElem?_cons_succ]; rfl
          case hwt0utlt2 => rfl
          case hyt0utlt2 => intro W hW; go_simp; with_reducible rfl
          simp only [Act.put, List.setIfInBounds_toArray, List.set_cons_zero, List.set_cons_succ]
          refine ext_take (i := 3) (oi := ?oit0utlt3) (v := ?vt0utlt3) ?hit0utlt3 (by kernel_rfl) (by kernel_rfl) (by kernel_rfl) hQ ?hwt0utlt3 ?hyt0utlt3 ?restt0utlt3
          case hit0utlt3 => simp only [List.getElem?_toArray, List.getElem?_cons_zero, List.getElem?_cons_succ]; rfl
          case hwt0utlt3 => rfl
          case hyt0utlt3 => intro W hW; go_simp; with_reducible rfl
          simp only [Act.put, List.setIfInBounds_toArray, List.set_cons_zero, List.set_cons_succ]
          refine ext_take (i := 4) (oi := ?oit0utlt4) (v := ?vt0utlt4) ?hit0utlt4 (by kernel_rfl) (by kernel_rfl) (by kernel_rfl) hQ ?hwt0utlt4 ?hyt0utlt4 ?restt0utlt4
          case hit0utlt4 => simp only [List.getElem?_toArray, List.getElem?_cons_zero, List.getElem?_cons_succ]; rfl
          case hwt0utlt4 => rfl
          case hyt0utlt4 => intro W hW; go_simp; with_reducible rfl
          simp only [Act.put, List.setIfInBounds_toArray, List.set_cons_zero, List.set_cons_succ]
          refine ext_take (i := 5) (oi := ?oit0utlt5) (v := ?vt0utlt5) ?hit0utlt5 (by kernel_rfl) (by kernel_rfl) (by kernel_rfl) hQ ?hwt0utlt5 ?hyt0utlt5 ?restt0utlt5
          case hit0utlt5 => simp only [List.getElem?_toArray, List.getElem?_cons_zero, List.getElem?_cons_succ]; rfl
          case hwt0utlt5 => rfl
          case hyt0utlt5 => intro W hW; go_simp; with_reducible rfl
          simp only [Act.put, List.setIfInBounds_toArray, List.set_cons_zero, List.set_cons_succ]
          refine ext_take (i := 6) (oi := ?oit0utlt6) (v := ?vt0utlt6) ?hit0utlt6 (by kernel_rfl) (by kernel_rfl) (by kernel_rfl) hQ ?hwt0utlt6 ?hyt0utlt6 ?restt0utlt6
          case hit0utlt6 => simp only [List.getElem?_toArray, List.getElem?_cons_zero, List.getElem?_cons_succ]; rfl
          case hwt0utlt6 => rfl
          case hyt0utlt6 => intro W hW; go_simp; with_reducible rfl
          simp only [Act.put, List.setIfInBounds_toArray, List.set_cons_zero, List.set_cons_succ]
          refine ext_take (i := 7) (oi := ?oit0utlt7) (v := ?vt0utlt7) ?hit0utlt7 (by kernel_rfl) (by kernel_rfl) (by kernel_rfl) hQ ?hwt0utlt7 ?hyt0utlt7 ?restt0utlt7
          case hit0utlt7 => simp only [List.getElem?_toArray, List.getElem?_cons_zero, List.getElem?_cons_succ]; rfl
          case hwt0utlt7 => rfl
          case hyt0utlt7 => intro W hW; go_simp; with_reducible rfl
          simp only [Act.put, List.setIfInBounds_toArray, List.set_cons_zero, List.set_cons_succ]
          refine ext_step (i := 8) (oi := ?oit0utlt8) (by kernel_rfl) ?hit0utlt8 ?hwt0utlt8 (fun K hK => ?_)
          case hit0utlt8 => simp only [List.getElem?_toArray, List.getElem?_cons_zero, List.getElem?_cons_succ]; rfl
          case hwt0utlt8 => rfl
          go_simp
          refine (ftR_b k0 ((u : Int) % 1000) hrg _).mono ?_; rintro e wq ⟨rfl, rfl⟩; refine hK _ _ (Ext.refl _) ?_
          try simp only [Act.put, List.setIfInBounds_toArray, List.set_cons_zero, List.set_cons_succ]
          refine ext_take (i := 9) (oi := ?oit0utlt9) (v := ?vt0utlt9) ?hit0utlt9 (by kernel_rfl) (by kernel_rfl) (by kernel_rfl) hQ ?hwt0utlt9 ?hyt0utlt9 ?restt0utlt9
          case hit0utlt9 => simp only [List.getElem?_toArray, List.getElem?_cons_zero, List.getElem?_cons_succ]; rfl
          case hwt0utlt9 => rfl
          case hyt0utlt9 => intro W hW; go_simp; with_reducible rfl
          simp only [Act.put, List.setIfInBounds_toArray, List.set_cons_zero, List.set_cons_succ]
          refine ext_take (i := 10) (oi := ?oit0utlt10) (v := ?vt0utlt10) ?hit0utlt10 (by kernel_rfl) (by kernel_rfl) (by kernel_rfl) hQ ?hwt0utlt10 ?hyt0utlt10 ?restt0utlt10
          case hit0utlt10 => simp only [List.getElem?_toArray, List.getElem?_cons_zero, List.getElem?_cons_succ]; rfl
          case hwt0utlt10 => rfl
          case hyt0utlt10 => intro W hW; go_simp; with_reducible rfl
          simp only [Act.put, List.setIfInBounds_toArray, List.set_cons_zero, List.set_cons_succ]
          refine wpAnyH_done (by kernel_rfl) ?_ _
          simp only [NoP]
          clear X_ho_0 X_ho_1 X_ho_2
          go_wp2_with fail
          go_roundw
          case rel => exact ⟨1, p + s, ((u : Int) % 1000), (0), (0), (ftR (k0.toNat : Int) ((u : Int) % 1000)), by omega, rfl, by go_num, by omega, fun _ => ⟨rfl, rfl, (by have h := HOK.out; rw [hdv, hfin] at h; exact h)⟩, by omega, by omega, (by repeat (first | with_reducible exact h2 | with_reducible (apply Blk.set_) | with_reducible (apply Blk.far; case hp => (simp <;> omega)) | with_reducible (apply Blk.alloc) | with_reducible (apply Blk.drew))), (by repeat (first | with_reducible exact h3 | with_reducible (apply Blk.set_) | with_reducible (apply Blk.far; case hp => (simp <;> omega)) | with_reducible (apply Blk.alloc) | with_reducible (apply Blk.drew))), (by repeat (first | with_reducible exact hn | with_reducible (apply Blk.set_) | with_reducible (apply Blk.far; case hp => (simp <;> omega)) | with_reducible (apply Blk.alloc) | with_reducible (apply Blk.drew))), (by repeat (first | with_reducible exact ho | with_reducible (apply Blk.set_) | with_reducible (apply Blk.far; case hp => (simp <;> omega)) | with_reducible (apply Blk.alloc) | with_reducible (apply Blk.drew))), (by have hs_ := hB.size; repeat (first | with_reducible exact hB | with_reducible (refine Below.setCell ?_ (by simp <;> omega) _) | with_reducible (refine Below.alloc ?_ (by first | exact hs_ | (simp <;> omega)) _) | with_reducible (refine Below.drew ?_)))⟩
          case measure => simp [intOf]
        · have d1 : decide ((u : Int) < 1000) = false := by simp; omega
          have hfin : (true && rdg l k0 p) = false := by rw [HDG.out, hsg, hdv]; simp [huc]
          have z939 : x2.cell? ⟨(w.heap.size + 4), 0, none⟩ = some (.int .i64 0) := (ho.cell 0).trans rfl
          have z940 := ho.frozen 0
          have z941 : x2.cell? ⟨(w.heap.size + 4), 1, none⟩ = some (.int .i64 0) := (ho.cell 1).trans rfl
          have z942 := ho.frozen 1
          have z943 : x2.cell? ⟨(w.heap.size + 4), 2, none⟩ = some (.int .i64 0) := (ho.cell 2).trans rfl
          have z944 := ho.frozen 2
          have z945 := h2.lt
          have z946 := h3.lt
          have z947 := hn.lt
          have z948 := ho.lt
          go_wp2_with fail
          clear z939 z940 z941 z942 z943 z944 z945 z946 z947 z948
          replace ho : Blk (x2.setCell ⟨w.heap.size + 4, 0, none⟩ (.int .i64 ((u : Int) % 1000))) (w.heap.size + 4) 58 #[.int .i64 ((u : Int) % 1000), .int .i64 0, .int .i64 0] := ho.set_ 0 (.int .i64 ((u : Int) % 1000))
          replace h2 := h2.far (p := ⟨w.heap.size + 4, 0, none⟩) (by simp <;> omega) (.int .i64 ((u : Int) % 1000))
          replace h3 := h3.far (p := ⟨w.heap.size + 4, 0, none⟩) (by simp <;> omega) (.int .i64 ((u : Int) % 1000))
          replace hn := hn.far (p := ⟨w.heap.size + 4, 0, none⟩) (by simp <;> omega) (.int .i64 ((u : Int) % 1000))
          replace hB := hB.setCell (p := ⟨w.heap.size + 4, 0, none⟩) (by simp <;> omega) (.int .i64 ((u : Int) % 1000))
          generalize (x2.setCell ⟨w.heap.size + 4, 0, none⟩ (.int .i64 ((u : Int) % 1000))) = x8 at *
          refine nop_wp (ext_start (by kernel_rfl) calm_nop (fun hQ => ?_))
          replace h2 : Blk x8.drew (w.heap.size + 1) 39 #[.slice none 0 0, .int .i64 0] := (by repeat (first | with_reducible exact h2 | with_reducible (apply Blk.set_) | with_reducible (apply Blk.far; case hp => (simp <;> omega)) | with_reducible (apply Blk.alloc) | with_reducible (apply Blk.drew)))
          replace h3 : Blk x8.drew (w.heap.size + 2) 23 #[.int .u8 0, .int .i64 0, .int .i64 0, .int .i64 0] := (by repeat (first | with_reducible exact h3 | with_reducible (apply Blk.set_) | with_reducible (apply Blk.far; case hp => (simp <;> omega)) | with_reducible (apply Blk.alloc) | with_reducible (apply Blk.drew)))
          replace hn : Blk x8.drew (w.heap.size + 3) 39 #[.slice (some ad) n c, .int .i64 ((p + s : Nat) : Int)] := (by repeat (first | with_reducible exact hn | with_reducible (apply Blk.set_) | with_reducible (apply Blk.far; case hp => (simp <;> omega)) | with_reducible (apply Blk.alloc) | with_reducible (apply Blk.drew)))
          replace ho : Blk x8.drew (w.heap.size + 4) 58 #[.int .i64 ((u : Int) % 1000), .int .i64 0, .int .i64 0] := (by repeat (first | with_reducible exact ho | with_reducible (apply Blk.set_) | with_reducible (apply Blk.far; case hp => (simp <;> omega)) | with_reducible (apply Blk.alloc) | with_reducible (apply Blk.drew)))
          replace hB : Below w.heap.size w x8.drew := Below.drew (by have hs_ := hB.size; repeat (first | with_reducible exact hB | with_reducible (refine Below.setCell ?_ (by simp <;> omega) _) | with_reducible (refine Below.alloc ?_ (by first | exact hs_ | (simp <;> omega)) _) | with_reducible (refine Below.drew ?_)))
          generalize x8.drew = x9 at *
          have X_ho_0 : ∀ W, Ext x9 W → W.cell? ⟨(w.heap.size + 4), 0, none⟩ = some (.int .i64 ((u : Int) % 1000)) := fun W h_ => ((ho.below h_ ho.lt).cell 0).trans rfl
          have X_ho_1 : ∀ W, Ext x9 W → W.cell? ⟨(w.heap.size + 4), 1, none⟩ = some (.int .i64 0) := fun W h_ => ((ho.below h_ ho.lt).cell 1).trans rfl
          have X_ho_2 : ∀ W, Ext x9 W → W.cell? ⟨(w.heap.size + 4), 2, none⟩ = some (.int .i64 0) := fun W h_ => ((ho.below h_ ho.lt).cell 2).trans rfl
          refine ext_take (i := 0) (oi := ?oit0utge0) (v := ?vt0utge0) ?hit0utge0 (by kernel_rfl) (by kernel_rfl) (by kernel_rfl) hQ ?hwt0utge0 ?hyt0utge0 ?restt0utge0
          case hit0utge0 => simp only [List.getElem?_toArray, List.getElem?_cons_zero]; rfl
          case hwt0utge0 => rfl
          case hyt0utge0 => intro W hW; go_simp; with_reducible rfl
          simp only [Act.put, List.setIfInBounds_toArray, List.set_cons_zero, List.set_cons_succ]
          refine ext_take (i := 1) (oi := ?oit0utge1) (v := ?vt0utge1) ?hit0utge1 (by kernel_rfl) (by kernel_rfl) (by kernel_rfl) hQ ?hwt0utge1 ?hyt0utge1 ?restt0utge1
          case hit0utge1 => simp only [List.getElem?_toArray, List.getElem?_cons_zero, List.getElem?_cons_succ]; rfl
          case hwt0utge1 => rfl
          case hyt0utge1 => intro W hW; go_simp; with_reducible rfl
          simp only [Act.put, List.setIfInBounds_toArray, List.set_cons_zero, List.set_cons_succ]
          refine ext_skip (i := 2) (oi := ?oit0utge2) ?hit0utge2 (by kernel_rfl) (by kernel_rfl) (by kernel_rfl) hQ ?hwt0utge2 ?restt0utge2
          case hit0utge2 => simp only [List.getElem?_toArray, List.getElem?_cons_zero, List.getElem?_cons_succ]; rfl
          case hwt0utge2 => rfl
          simp only [Act.put, List.setIfInBounds_toArray, List.set_cons_zero, List.set_cons_succ]
          refine ext_skip (i := 3) (oi := ?oit0utge3) ?hit0utge3 (by kernel_rfl) (by kernel_rfl) (by kernel_rfl) hQ ?hwt0utge3 ?restt0utge3
          case hit0utge3 => simp only [List.getElem?_toArray, List.getElem?_cons_zero, List.getElem?_cons_succ]; rfl
          case hwt0utge3 => rfl
          simp only [Act.put, List.setIfInBounds_toArray, List.set_cons_zero, List.set_cons_succ]
          refine ext_skip (i := 4) (oi := ?oit0utge4) ?hit0utge4 (by kernel_rfl) (by kernel_rfl) (by kernel_rfl) hQ ?hwt0utge4 ?restt0utge4
          case hit0utge4 => simp only [List.getElem?_toArray, List.getElem?_cons_zero, List.getElem?_cons_succ]; rfl
          case hwt0utge4 => rfl
          simp only [Act.put, List.setIfInBounds_toArray, List.set_cons_zero, List.set_cons_succ]
          refine ext_skip (i := 5) (oi := ?oit0utge5) ?hit0utge5 (by kernel_rfl) (by kernel_rfl) (by kernel_rfl) hQ ?hwt0utge5 ?restt0utge5
          case hit0utge5 => simp only [List.getElem?_toArray, List.getElem?_cons_zero, List.getElem?_cons_succ]; rfl
          case hwt0utge5 => rfl
          simp only [Act.put, List.setIfInBounds_toArray, List.set_cons_zero, List.set_cons_succ]
          refine ext_skip (i := 6) (oi := ?oit0utge6) ?hit0utge6 (by kernel_rfl) (by kernel_rfl) (by kernel_rfl) hQ ?hwt0utge6 ?restt0utge6
          case hit0utge6 => simp only [List.getElem?_toArray, List.getElem?_cons_zero, List.getElem?_cons_succ]; rfl
          case hwt0utge6 => rfl
          simp only [Act.put, List.setIfInBounds_toArray, List.set_cons_zero, List.set_cons_succ]
          refine ext_skip (i := 7) (oi := ?oit0utge7) ?hit0utge7 (by kernel_rfl) (by kernel_rfl) (by kernel_rfl) hQ ?hwt0utge7 ?restt0utge7
          case hit0utge7 => simp only [List.getElem?_toArray, List.getElem?_cons_zero, List.getElem?_cons_succ]; rfl
          case hwt0utge7 => rfl
          simp only [Act.put, List.setIfInBounds_toArray, List.set_cons_zero, List.set_cons_succ]
          refine ext_skip (i := 8) (oi := ?oit0utge8) ?hit0utge8 (by kernel_rfl) (by kernel_rfl) (by kernel_rfl) hQ ?hwt0utge8 ?restt0utge8
          case hit0utge8 => simp only [List.getElem?_toArray, List.getElem?_cons_zero, List.getElem?_cons_succ]; rfl
          case hwt0utge8 => rfl
          simp only [Act.put, List.setIfInBounds_toArray, List.set_cons_zero, List.set_cons_succ]
          refine ext_take (i := 9) (oi := ?oit0utge9) (v := ?vt0utge9) ?hit0utge9 (by kernel_rfl) (by kernel_rfl) (by kernel_rfl) hQ ?hwt0utge9 ?hyt0utge9 ?restt0utge9
          case hit0utge9 => simp only [List.getElem?_toArray, List.getElem?_cons_zero, List.getElem?_cons_succ]; rfl
          case hwt0utge9 => rfl
          case hyt0utge9 => intro W hW; go_simp; with_reducible rfl
          simp only [Act.put, List.setIfInBounds_toArray, List.set_cons_zero, List.set_cons_succ]
          refine ext_take (i := 10) (oi := ?oit0utge10) (v := ?vt0utge10) ?hit0utge10 (by kernel_rfl) (by kernel_rfl) (by kernel_rfl) hQ ?hwt0utge10 ?hyt0utge10 ?restt0utge10
          case hit0utge10 => simp only [List.getElem?_toArray, List.getElem?_cons_zero, List.getElem?_cons_succ]; rfl
          case hwt0utge10 => rfl
          case hyt0utge10 => intro W hW; go_simp; with_reducible rfl
          simp only [Act.put, List.setIfInBounds_toArray, List.set_cons_zero, List.set_cons_succ]
          refine wpAnyH_done (by kernel_rfl) ?_ _
          simp only [NoP]
          clear X_ho_0 X_ho_1 X_ho_2
          go_wp2_with fail
          go_roundw
          case rel => exact ⟨1, p + s, ((u : Int) % 1000), (0), (0), (false), by omega, rfl, by go_num, by omega, fun _ => ⟨rfl, rfl, (by have h := HOK.out; rw [hdv, hfin] at h; exact h)⟩, by omega, by omega, (by repeat (first | with_reducible exact h2 | with_reducible (apply Blk.set_) | with_reducible (apply Blk.far; case hp => (simp <;> omega)) | with_reducible (apply Blk.alloc) | with_reducible (apply Blk.drew))), (by repeat (first | with_reducible exact h3 | with_reducible (apply Blk.set_) | with_reducible (apply Blk.far; case hp => (simp <;> omega)) | with_reducible (apply Blk.alloc) | with_reducible (apply Blk.drew))), (by repeat (first | with_reducible exact hn | with_reducible (apply Blk.set_) | with_reducible (apply Blk.far; case hp => (simp <;> omega)) | with_reducible (apply Blk.alloc) | with_reducible (apply Blk.drew))), (by repeat (first | with_reducible exact ho | with_reducible (apply Blk.set_) | with_reducible (apply Blk.far; case hp => (simp <;> omega)) | with_reducible (apply Blk.alloc) | with_reducible (apply Blk.drew))), (by have hs_ := hB.size; repeat (first | with_reducible exact hB | with_reducible (refine Below.setCell ?_ (by simp <;> omega) _) | with_reducible (refine Below.alloc ?_ (by first | exact hs_ | (simp <;> omega)) _) | with_reducible (refine Below.drew ?_)))⟩
          case measure => simp [intOf]
    · obtain ⟨rfl, rfl, hR⟩ := h1_ rfl
      clear h0_ h1_ h2_ h3_
      have HRS := Lib.hid hR
      have hpn2 : p ≤ n := by rw [← HL.out]; exact hR.1
      clear hR
      by_cases h45 : k1.toNat = 45
      · have HK := Lib.hid h45
        have d45 : ((((⟨#[k0, k1, k2]⟩ : ByteArray)[1]'(by show 1 < 3; decide)).toNat : Int) == 45) = true := by show ((k1.toNat : Int) == 45) = true; simp; omega
        have z901 : wr.cell? ⟨(w.heap.size + 3), 0, none⟩ = some (.slice (some ad) n c) := (hn.cell 0).trans rfl
        have z902 := hn.frozen 0
        have z903 : wr.cell? ⟨(w.heap.size + 3), 1, none⟩ = some (.int .i64 (p : Int)) := (hn.cell 1).trans rfl
        have z904 := hn.frozen 1
        have z905 : wr.cell? ⟨(w.heap.size + 4), 0, none⟩ = some (.int .i64 v0) := (ho.cell 0).trans rfl
        have z906 := ho.frozen 0
        have z907 : wr.cell? ⟨(w.heap.size + 4), 1, none⟩ = some (.int .i64 0) := (ho.cell 1).trans rfl
        have z908 := ho.frozen 1
        have z909 : wr.cell? ⟨(w.heap.size + 4), 2, none⟩ = some (.int .i64 0) := (ho.cell 2).trans rfl
        have z910 := ho.frozen 2
        have z911 := h2.lt
        have z912 := h3.lt
        have z913 := hn.lt
        have z914 := ho.lt
        go_wp2_with fail
        go_roundw
        case rel => exact ⟨2, p, (v0), (0), (0), f, by omega, rfl, by go_num, by omega, by omega, fun _ => ⟨rfl, RS.no HRS.out rfl HK.out⟩, by omega, (by repeat (first | with_reducible exact h2 | with_reducible (apply Blk.set_) | with_reducible (apply Blk.far; case hp => (simp <;> omega)) | with_reducible (apply Blk.alloc) | with_reducible (apply Blk.drew))), (by repeat (first | with_reducible exact h3 | with_reducible (apply Blk.set_) | with_reducible (apply Blk.far; case hp => (simp <;> omega)) | with_reducible (apply Blk.alloc) | with_reducible (apply Blk.drew))), (by repeat (first | with_reducible exact hn | with_reducible (apply Blk.set_) | with_reducible (apply Blk.far; case hp => (simp <;> omega)) | with_reducible (apply Blk.alloc) | with_reducible (apply Blk.drew))), (by repeat (first | with_reducible exact ho | with_reducible (apply Blk.set_) | with_reducible (apply Blk.far; case hp => (simp <;> omega)) | with_reducible (apply Blk.alloc) | with_reducible (apply Blk.drew))), (by have hs_ := hB.size; repeat (first | with_reducible exact hB | with_reducible (refine Below.setCell ?_ (by simp <;> omega) _) | with_reducible (refine Below.alloc ?_ (by first | exact hs_ | (simp <;> omega)) _) | with_reducible (refine Below.drew ?_)))⟩
        case measure => simp [intOf]
      have HK := Lib.hid h45
      have d45 : ((((⟨#[k0, k1, k2]⟩ : ByteArray)[1]'(by show 1 < 3; decide)).toNat : Int) == 45) = false := by show ((k1.toNat : Int) == 45) = false; simp; omega
      clear h45
      have HU := fun W h => read_any (some ad) n c l p W h (by omega) hpn2
      by_cases he : (uvR l (p : Int)).1 = 0
      rotate_left
      · obtain ⟨er, her⟩ : ∃ er, (uvR l (p : Int)).1 = er := ⟨_, rfl⟩
        have hE := RS.bad HRS.out rfl HK.out he
        have e0 : rdE l (p : Int) = er := by unfold rdE; exact her
        have hne : er ≠ 0 := by rw [← her]; exact he
        rw [show rdC (some ad) n c l (p : Int) = cur none 0 0 0 from by unfold rdC; rw [if_neg (by rw [e0]; exact hne)], show rdN l (p : Int) = 0 from by unfold rdN; rw [if_neg (by rw [e0]; exact hne)], e0] at HU
        have HN0 := Lib.hid hne
        have HE := Lib.hid (show rrE l a = er from by rw [HF2.out, if_pos (by rw [hE]; exact he), hE, her])
        have dr : (er != 0) = true := by rw [bne_iff_ne]; exact hne
        unfold cur at HU
        clear hE her e0 he hne
        have z901 : wr.cell? ⟨(w.heap.size + 3), 0, none⟩ = some (.slice (some ad) n c) := (hn.cell 0).trans rfl
        have z902 := hn.frozen 0
        have z903 : wr.cell? ⟨(w.heap.size + 3), 1, none⟩ = some (.int .i64 (p : Int)) := (hn.cell 1).trans rfl
        have z904 := hn.frozen 1
        have z905 : wr.cell? ⟨(w.heap.size + 4), 0, none⟩ = some (.int .i64 v0) := (ho.cell 0).trans rfl
        have z906 := ho.frozen 0
        have z907 : wr.cell? ⟨(w.heap.size + 4), 1, none⟩ = some (.int .i64 0) := (ho.cell 1).trans rfl
        have z908 := ho.frozen 1
        have z909 : wr.cell? ⟨(w.heap.size + 4), 2, none⟩ = some (.int .i64 0) := (ho.cell 2).trans rfl
        have z910 := ho.frozen 2
        have z911 := h2.lt
        have z912 := h3.lt
        have z913 := hn.lt
        have z914 := ho.lt
        go_wp2_with fail
        refine (HU _ (HR.out.mv (by have hs_ := hB.size; repeat (first | with_reducible exact hB | with_reducible (refine Below.setCell ?_ (by simp <;> omega) _) | with_reducible (refine Below.alloc ?_ (by first | exact hs_ | (simp <;> omega)) _) | with_reducible (refine Below.drew ?_))))).mono ?_
        rintro e x1 ⟨rfl, bB⟩
        replace h2 := Blk.via0 (g := (w.heap.size + 1)) (t := 39) bB (by repeat (first | with_reducible exact h2 | with_reducible (apply Blk.set_) | with_reducible (apply Blk.far; case hp => (simp <;> omega)) | with_reducible (apply Blk.alloc) | with_reducible (apply Blk.drew)))
        replace h2 : Blk x1 (w.heap.size + 1) 39 #[.slice none 0 0, .int .i64 0] := h2
        replace h3 := Blk.via0 (g := (w.heap.size + 2)) (t := 23) bB (by repeat (first | with_reducible exact h3 | with_reducible (apply Blk.set_) | with_reducible (apply Blk.far; case hp => (simp <;> omega)) | with_reducible (apply Blk.alloc) | with_reducible (apply Blk.drew)))
        replace h3 : Blk x1 (w.heap.size + 2) 23 #[.int .u8 0, .int .i64 0, .int .i64 0, .int .i64 0] := h3
        replace hn := Blk.via0 (g := (w.heap.size + 3)) (t := 39) bB (by repeat (first | with_reducible exact hn | with_reducible (apply Blk.set_) | with_reducible (apply Blk.far; case hp => (simp <;> omega)) | with_reducible (apply Blk.alloc) | with_reducible (apply Blk.drew)))
        replace hn : Blk x1 (w.heap.size + 3) 39 #[.slice (some ad) n c, .int .i64 (p : Int)] := hn
        replace ho := Blk.via0 (g := (w.heap.size + 4)) (t := 58) bB (by repeat (first | with_reducible exact ho | with_reducible (apply Blk.set_) | with_reducible (apply Blk.far; case hp => (simp <;> omega)) | with_reducible (apply Blk.alloc) | with_reducible (apply Blk.drew)))
        replace ho : Blk x1 (w.heap.size + 4) 58 #[.int .i64 v0, .int .i64 0, .int .i64 0] := ho
        replace hB := Below.via (w := w) (by have hs_ := hB.size; repeat (first | with_reducible exact hB | with_reducible (refine Below.setCell ?_ (by simp <;> omega) _) | with_reducible (refine Below.alloc ?_ (by first | exact hs_ | (simp <;> omega)) _) | with_reducible (refine Below.drew ?_))) bB
        clear z901 z902 z903 z904 z905 z906 z907 z908 z909 z910 z911 z912 z913 z914
        clear bB
        clear HU
        have z915 : x1.cell? ⟨(w.heap.size + 1), 0, none⟩ = some (.slice none 0 0) := (h2.cell 0).trans rfl
        have z916 := h2.frozen 0
        have z917 : x1.cell? ⟨(w.heap.size + 1), 1, none⟩ = some (.int .i64 0) := (h2.cell 1).trans rfl
        have z918 := h2.frozen 1
        have z919 : x1.cell? ⟨(w.heap.size + 2), 0, none⟩ = some (.int .u8 0) := (h3.cell 0).trans rfl
        have z920 := h3.frozen 0
        have z921 : x1.cell? ⟨(w.heap.size + 2), 1, none⟩ = some (.int .i64 0) := (h3.cell 1).trans rfl
        have z922 := h3.frozen 1
        have z923 : x1.cell? ⟨(w.heap.size + 2), 2, none⟩ = some (.int .i64 0) := (h3.cell 2).trans rfl
        have z924 := h3.frozen 2
        have z925 : x1.cell? ⟨(w.heap.size + 2), 3, none⟩ = some (.int .i64 0) := (h3.cell 3).trans rfl
        have z926 := h3.frozen 3
        have z927 := h2.lt
        have z928 := h3.lt
        have z929 := hn.lt
        have z930 := ho.lt
        go_wp2_with fail
        refine ret_cc1 rfl curT insT rfl (by repeat (first | with_reducible exact h2 | with_reducible (apply Blk.set_) | with_reducible (apply Blk.far; case hp => (simp <;> omega)) | with_reducible (apply Blk.alloc) | with_reducible (apply Blk.drew))) (by rfl) rfl (by repeat (first | with_reducible exact h3 | with_reducible (apply Blk.set_) | with_reducible (apply Blk.far; case hp => (simp <;> omega)) | with_reducible (apply Blk.alloc) | with_reducible (apply Blk.drew))) (by rfl) ?_
        exact ⟨.inr ⟨by rw [HE.out]; exact HN0.out, by rw [HE.out]; rfl⟩, (by have hs_ := hB.size; repeat (first | with_reducible exact hB | with_reducible (refine Below.setCell ?_ (by simp <;> omega) _) | with_reducible (refine Below.alloc ?_ (by first | exact hs_ | (simp <;> omega)) _) | with_reducible (refine Below.drew ?_)))⟩
      obtain ⟨hy1, hy2, hy3, _⟩ := uvR_le he
      rw [show ((p : Int)).toNat = p from by simp] at hy3
      obtain ⟨s, hs⟩ : ∃ s, (uvR l (p : Int)).2.2 = s := ⟨_, rfl⟩
      have hqs : p + s ≤ n := by rw [← HL.out, ← hs]; exact hy3
      obtain ⟨u, hu_⟩ : ∃ u, (uvR l (p : Int)).2.1 = u := ⟨_, rfl⟩
      have hub : u < 18446744073709551616 := by rw [← hu_]; exact hy1
      have e0 : rdE l (p : Int) = 0 := he
      rw [show rdC (some ad) n c l (p : Int) = cur (some ad) n c (((p + s : Nat)) : Int) from by unfold rdC; rw [if_pos e0, hs]; rfl, show rdN l (p : Int) = u from by unfold rdN; rw [if_pos e0, hu_], e0] at HU
      unfold cur at HU
      have HOK := Lib.hid (show RS l [k0, k1, k2] (a + 1) 2 (p + s) ([v0] ++ [rdv l k1 p]) (f && rdg l k1 p) from by have h := RS.ok HRS.out rfl HK.out he; rw [hs] at h; exact h)
      have HDV := Lib.hid (show rdv l k1 p = if sgR (k1.toNat : Int) then hlf u else ((u % 1000 : Nat) : Int) from by unfold rdv; rw [hu_])
      have HDG := Lib.hid (show rdg l k1 p = ((sgR (k1.toNat : Int) || decide (u < 1000)) && ftR (k1.toNat : Int) (rdv l k1 p)) from by unfold rdg; rw [hu_])
      clear e0 he hy1 hy2 hy3 hs hu_ HRS
      have z901 : wr.cell? ⟨(w.heap.size + 3), 0, none⟩ = some (.slice (some ad) n c) := (hn.cell 0).trans rfl
      have z902 := hn.frozen 0
      have z903 : wr.cell? ⟨(w.heap.size + 3), 1, none⟩ = some (.int .i64 (p : Int)) := (hn.cell 1).trans rfl
      have z904 := hn.frozen 1
      have z905 : wr.cell? ⟨(w.heap.size + 4), 0, none⟩ = some (.int .i64 v0) := (ho.cell 0).trans rfl
      have z906 := ho.frozen 0
      have z907 : wr.cell? ⟨(w.heap.size + 4), 1, none⟩ = some (.int .i64 0) := (ho.cell 1).trans rfl
      have z908 := ho.frozen 1
      have z909 : wr.cell? ⟨(w.heap.size + 4), 2, none⟩ = some (.int .i64 0) := (ho.cell 2).trans rfl
      have z910 := ho.frozen 2
      have z911 := h2.lt
      have z912 := h3.lt
      have z913 := hn.lt
      have z914 := ho.lt
      go_wp2_with fail
      refine (HU _ (HR.out.mv (by have hs_ := hB.size; repeat (first | with_reducible exact hB | with_reducible (refine Below.setCell ?_ (by simp <;> omega) _) | with_reducible (refine Below.alloc ?_ (by first | exact hs_ | (simp <;> omega)) _) | with_reducible (refine Below.drew ?_))))).mono ?_
      rintro e x1 ⟨rfl, bB⟩
      replace h2 := Blk.via0 (g := (w.heap.size + 1)) (t := 39) bB (by repeat (first | with_reducible exact h2 | with_reducible (apply Blk.set_) | with_reducible (apply Blk.far; case hp => (simp <;> omega)) | with_reducible (apply Blk.alloc) | with_reducible (apply Blk.drew)))
      replace h2 : Blk x1 (w.heap.size + 1) 39 #[.slice none 0 0, .int .i64 0] := h2
      replace h3 := Blk.via0 (g := (w.heap.size + 2)) (t := 23) bB (by repeat (first | with_reducible exact h3 | with_reducible (apply Blk.set_) | with_reducible (apply Blk.far; case hp => (simp <;> omega)) | with_reducible (apply Blk.alloc) | with_reducible (apply Blk.drew)))
      replace h3 : Blk x1 (w.heap.size + 2) 23 #[.int .u8 0, .int .i64 0, .int .i64 0, .int .i64 0] := h3
      replace hn := Blk.via0 (g := (w.heap.size + 3)) (t := 39) bB (by repeat (first | with_reducible exact hn | with_reducible (apply Blk.set_) | with_reducible (apply Blk.far; case hp => (simp <;> omega)) | with_reducible (apply Blk.alloc) | with_reducible (apply Blk.drew)))
      replace hn : Blk x1 (w.heap.size + 3) 39 #[.slice (some ad) n c, .int .i64 (p : Int)] := hn
      replace ho := Blk.via0 (g := (w.heap.size + 4)) (t := 58) bB (by repeat (first | with_reducible exact ho | with_reducible (apply Blk.set_) | with_reducible (apply Blk.far; case hp => (simp <;> omega)) | with_reducible (apply Blk.alloc) | with_reducible (apply Blk.drew)))
      replace ho : Blk x1 (w.heap.size + 4) 58 #[.int .i64 v0, .int .i64 0, .int .i64 0] := ho
      replace hB := Below.via (w := w) (by have hs_ := hB.size; repeat (first | with_reducible exact hB | with_reducible (refine Below.setCell ?_ (by simp <;> omega) _) | with_reducible (refine Below.alloc ?_ (by first | exact hs_ | (simp <;> omega)) _) | with_reducible (refine Below.drew ?_))) bB
      clear z901 z902 z903 z904 z905 z906 z907 z908 z909 z910 z911 z912 z913 z914
      clear bB
      clear HU
      have hnx := Blk.new x1 39 #[.slice (some ad) n c, .int .i64 ((p + s : Nat) : Int)]
      obtain ⟨z1_, z2_, z3_, z4_⟩ := hnx.cf2
      have z915 : x1.cell? ⟨(w.heap.size + 3), 0, none⟩ = some (.slice (some ad) n c) := (hn.cell 0).trans rfl
      have z916 := hn.frozen 0
      have z917 : ∀ ob_, (x1.alloc ob_).cell? ⟨(w.heap.size + 3), 0, none⟩ = some (.slice (some ad) n c) := fun ob_ => ((Blk.alloc hn ob_).cell 0).trans rfl
      have z918 : ∀ ob_, (x1.alloc ob_).frozen? ⟨(w.heap.size + 3), 0, none⟩ = false := fun ob_ => (Blk.alloc hn ob_).frozen 0
      have z919 : x1.cell? ⟨(w.heap.size + 3), 1, none⟩ = some (.int .i64 (p : Int)) := (hn.cell 1).trans rfl
      have z920 := hn.frozen 1
      have z921 : ∀ ob_, (x1.alloc ob_).cell? ⟨(w.heap.size + 3), 1, none⟩ = some (.int .i64 (p : Int)) := fun ob_ => ((Blk.alloc hn ob_).cell 1).trans rfl
      have z922 : ∀ ob_, (x1.alloc ob_).frozen? ⟨(w.heap.size + 3), 1, none⟩ = false := fun ob_ => (Blk.alloc hn ob_).frozen 1
      have z923 : x1.cell? ⟨(w.heap.size + 4), 0, none⟩ = some (.int .i64 v0) := (ho.cell 0).trans rfl
      have z924 := ho.frozen 0
      have z925 : ∀ ob_, (x1.alloc ob_).cell? ⟨(w.heap.size + 4), 0, none⟩ = some (.int .i64 v0) := fun ob_ => ((Blk.alloc ho ob_).cell 0).trans rfl
      have z926 : ∀ ob_, (x1.alloc ob_).frozen? ⟨(w.heap.size + 4), 0, none⟩ = false := fun ob_ => (Blk.alloc ho ob_).frozen 0
      have z927 : x1.cell? ⟨(w.heap.size + 4), 1, none⟩ = some (.int .i64 0) := (ho.cell 1).trans rfl
      have z928 := ho.frozen 1
      have z929 : ∀ ob_, (x1.alloc ob_).cell? ⟨(w.heap.size + 4), 1, none⟩ = some (.int .i64 0) := fun ob_ => ((Blk.alloc ho ob_).cell 1).trans rfl
      have z930 : ∀ ob_, (x1.alloc ob_).frozen? ⟨(w.heap.size + 4), 1, none⟩ = false := fun ob_ => (Blk.alloc ho ob_).frozen 1
      have z931 : x1.cell? ⟨(w.heap.size + 4), 2, none⟩ = some (.int .i64 0) := (ho.cell 2).trans rfl
      have z932 := ho.frozen 2
      have z933 : ∀ ob_, (x1.alloc ob_).cell? ⟨(w.heap.size + 4), 2, none⟩ = some (.int .i64 0) := fun ob_ => ((Blk.alloc ho ob_).cell 2).trans rfl
      have z934 : ∀ ob_, (x1.alloc ob_).frozen? ⟨(w.heap.size + 4), 2, none⟩ = false := fun ob_ => (Blk.alloc ho ob_).frozen 2
      have z935 := h2.lt
      have z936 := h3.lt
      have z937 := hn.lt
      have z938 := ho.lt
      go_wp2_with fail
      clear hnx z1_ z2_ z3_ z4_
      refine (sgR_b k1 _).mono ?_
      rintro e x2 ⟨rfl, bB⟩
      replace h2 := Blk.via0 (g := (w.heap.size + 1)) (t := 39) bB (by repeat (first | with_reducible exact h2 | with_reducible (apply Blk.set_) | with_reducible (apply Blk.far; case hp => (simp <;> omega)) | with_reducible (apply Blk.alloc) | with_reducible (apply Blk.drew)))
      replace h2 : Blk x2 (w.heap.size + 1) 39 #[.slice none 0 0, .int .i64 0] := h2
      replace h3 := Blk.via0 (g := (w.heap.size + 2)) (t := 23) bB (by repeat (first | with_reducible exact h3 | with_reducible (apply Blk.set_) | with_reducible (apply Blk.far; case hp => (simp <;> omega)) | with_reducible (apply Blk.alloc) | with_reducible (apply Blk.drew)))
      replace h3 : Blk x2 (w.heap.size + 2) 23 #[.int .u8 0, .int .i64 0, .int .i64 0, .int .i64 0] := h3
      replace hn := Blk.via0 (g := (w.heap.size + 3)) (t := 39) bB (by repeat (first | with_reducible exact hn | with_reducible (apply Blk.set_) | with_reducible (apply Blk.far; case hp => (simp <;> omega)) | with_reducible (apply Blk.alloc) | with_reducible (apply Blk.drew)))
      replace hn : Blk x2 (w.heap.size + 3) 39 #[.slice (some ad) n c, .int .i64 ((p + s : Nat) : Int)] := hn
      replace ho := Blk.via0 (g := (w.heap.size + 4)) (t := 58) bB (by repeat (first | with_reducible exact ho | with_reducible (apply Blk.set_) | with_reducible (apply Blk.far; case hp => (simp <;> omega)) | with_reducible (apply Blk.alloc) | with_reducible (apply Blk.drew)))
      replace ho : Blk x2 (w.heap.size + 4) 58 #[.int .i64 v0, .int .i64 0, .int .i64 0] := ho
      replace hB := Below.via (w := w) (by have hs_ := hB.size; repeat (first | with_reducible exact hB | with_reducible (refine Below.setCell ?_ (by simp <;> omega) _) | with_reducible (refine Below.alloc ?_ (by first | exact hs_ | (simp <;> omega)) _) | with_reducible (refine Below.drew ?_))) bB
      clear z915 z916 z917 z918 z919 z920 z921 z922 z923 z924 z925 z926 z927 z928 z929 z930 z931 z932 z933 z934 z935 z936 z937 z938
      clear bB
      by_cases hsg : sgR (k1.toNat : Int) = true
      · rw [hsg]
        have hdv : rdv l k1 p = hlf u := by rw [HDV.out, hsg]; rfl
        have hrg := hlf_rng hub
        have z939 : x2.cell? ⟨(w.heap.size + 4), 0, none⟩ = some (.int .i64 v0) := (ho.cell 0).trans rfl
        have z940 := ho.frozen 0
        have z941 : x2.cell? ⟨(w.heap.size + 4), 1, none⟩ = some (.int .i64 0) := (ho.cell 1).trans rfl
        have z942 := ho.frozen 1
        have z943 : x2.cell? ⟨(w.heap.size + 4), 2, none⟩ = some (.int .i64 0) := (ho.cell 2).trans rfl
        have z944 := ho.frozen 2
        have z945 := h2.lt
        have z946 := h3.lt
        have z947 := hn.lt
        have z948 := ho.lt
        go_wp2_with fail
        refine (half_b u hub _).mono ?_
        rintro e x3 ⟨rfl, bB⟩
        replace h2 := Blk.via0 (g := (w.heap.size + 1)) (t := 39) bB (by repeat (first | with_reducible exact h2 | with_reducible (apply Blk.set_) | with_reducible (apply Blk.far; case hp => (simp <;> omega)) | with_reducible (apply Blk.alloc) | with_reducible (apply Blk.drew)))
        replace h2 : Blk x3 (w.heap.size + 1) 39 #[.slice none 0 0, .int .i64 0] := h2
        replace h3 := Blk.via0 (g := (w.heap.size + 2)) (t := 23) bB (by repeat (first | with_reducible exact h3 | with_reducible (apply Blk.set_) | with_reducible (apply Blk.far; case hp => (simp <;> omega)) | with_reducible (apply Blk.alloc) | with_reducible (apply Blk.drew)))
        replace h3 : Blk x3 (w.heap.size + 2) 23 #[.int .u8 0, .int .i64 0, .int .i64 0, .int .i64 0] := h3
        replace hn := Blk.via0 (g := (w.heap.size + 3)) (t := 39) bB (by repeat (first | with_reducible exact hn | with_reducible (apply Blk.set_) | with_reducible (apply Blk.far; case hp => (simp <;> omega)) | with_reducible (apply Blk.alloc) | with_reducible (apply Blk.drew)))
        replace hn : Blk x3 (w.heap.size + 3) 39 #[.slice (some ad) n c, .int .i64 ((p + s : Nat) : Int)] := hn
        replace ho := Blk.via0 (g := (w.heap.size + 4)) (t := 58) bB (by repeat (first | with_reducible exact ho | with_reducible (apply Blk.set_) | with_reducible (apply Blk.far; case hp => (simp <;> omega)) | with_reducible (apply Blk.alloc) | with_reducible (apply Blk.drew)))
        replace ho : Blk x3 (w.heap.size + 4) 58 #[.int .i64 v0, .int .i64 0, .int .i64 0] := ho
        replace hB := Below.via (w := w) (by have hs_ := hB.size; repeat (first | with_reducible exact hB | with_reducible (refine Below.setCell ?_ (by simp <;> omega) _) | with_reducible (refine Below.alloc ?_ (by first | exact hs_ | (simp <;> omega)) _) | with_reducible (refine Below.drew ?_))) bB
        clear z939 z940 z941 z942 z943 z944 z945 z946 z947 z948
        clear bB
        cases f
        · have hfin : (false && rdg l k1 p) = false := by rw [HDG.out, hsg, hdv]; rfl
          have z949 : x3.cell? ⟨(w.heap.size + 4), 0, none⟩ = some (.int .i64 v0) := (ho.cell 0).trans rfl
          have z950 := ho.frozen 0
          have z951 : x3.cell? ⟨(w.heap.size + 4), 1, none⟩ = some (.int .i64 0) := (ho.cell 1).trans rfl
          have z952 := ho.frozen 1
          have z953 : x3.cell? ⟨(w.heap.size + 4), 2, none⟩ = some (.int .i64 0) := (ho.cell 2).trans rfl
          have z954 := ho.frozen 2
          have z955 := h2.lt
          have z956 := h3.lt
          have z957 := hn.lt
          have z958 := ho.lt
          go_wp2_with fail
          clear z949 z950 z951 z952 z953 z954 z955 z956 z957 z958
          replace ho : Blk (x3.setCell ⟨w.heap.size + 4, 1, none⟩ (.int .i64 (hlf u))) (w.heap.size + 4) 58 #[.int .i64 v0, .int .i64 (hlf u), .int .i64 0] := ho.set_ 1 (.int .i64 (hlf u))
          replace h2 := h2.far (p := ⟨w.heap.size + 4, 1, none⟩) (by simp <;> omega) (.int .i64 (hlf u))
          replace h3 := h3.far (p := ⟨w.heap.size + 4, 1, none⟩) (by simp <;> omega) (.int .i64 (hlf u))
          replace hn := hn.far (p := ⟨w.heap.size + 4, 1, none⟩) (by simp <;> omega) (.int .i64 (hlf u))
          replace hB := hB.setCell (p := ⟨w.heap.size + 4, 1, none⟩) (by simp <;> omega) (.int .i64 (hlf u))
          generalize (x3.setCell ⟨w.heap.size + 4, 1, none⟩ (.int .i64 (hlf u))) = x8 at *
          refine nop_wp (ext_start (by kernel_rfl) calm_nop (fun hQ => ?_))
          replace h2 : Blk x8.drew (w.heap.size + 1) 39 #[.slice none 0 0, .int .i64 0] := (by repeat (first | with_reducible exact h2 | with_reducible (apply Blk.set_) | with_reducible (apply Blk.far; case hp => (simp <;> omega)) | with_reducible (apply Blk.alloc) | with_reducible (apply Blk.drew)))
          replace h3 : Blk x8.drew (w.heap.size + 2) 23 #[.int .u8 0, .int .i64 0, .int .i64 0, .int .i64 0] := (by repeat (first | with_reducible exact h3 | with_reducible (apply Blk.set_) | with_reducible (apply Blk.far; case hp => (simp <;> omega)) | with_reducible (apply Blk.alloc) | with_reducible (apply Blk.drew)))
          replace hn : Blk x8.drew (w.heap.size + 3) 39 #[.slice (some ad) n c, .int .i64 ((p + s : Nat) : Int)] := (by repeat (first | with_reducible exact hn | with_reducible (apply Blk.set_) | with_reducible (apply Blk.far; case hp => (simp <;> omega)) | with_reducible (apply Blk.alloc) | with_reducible (apply Blk.drew)))
          replace ho : Blk x8.drew (w.heap.size + 4) 58 #[.int .i64 v0, .int .i64 (hlf u), .int .i64 0] := (by repeat (first | with_reducible exact ho | with_reducible (apply Blk.set_) | with_reducible (apply Blk.far; case hp => (simp <;> omega)) | with_reducible (apply Blk.alloc) | with_reducible (apply Blk.drew)))
          replace hB : Below w.heap.size w x8.drew := Below.drew (by have hs_ := hB.size; repeat (first | with_reducible exact hB | with_reducible (refine Below.setCell ?_ (by simp <;> omega) _) | with_reducible (refine Below.alloc ?_ (by first | exact hs_ | (simp <;> omega)) _) | with_reducible (refine Below.drew ?_)))
          generalize x8.drew = x9 at *
          have X_ho_0 : ∀ W, Ext x9 W → W.cell? ⟨(w.heap.size + 4), 0, none⟩ = some (.int .i64 v0) := fun W h_ => ((ho.below h_ ho.lt).cell 0).trans rfl
          have X_ho_1 : ∀ W, Ext x9 W → W.cell? ⟨(w.heap.size + 4), 1, none⟩ = some (.int .i64 (hlf u)) := fun W h_ => ((ho.below h_ ho.lt).cell 1).trans rfl
          have X_ho_2 : ∀ W, Ext x9 W → W.cell? ⟨(w.heap.size + 4), 2, none⟩ = some (.int .i64 0) := fun W h_ => ((ho.below h_ ho.lt).cell 2).trans rfl
          refine ext_take (i := 0) (oi := ?oit1sf0) (v := ?vt1sf0) ?hit1sf0 (by kernel_rfl) (by kernel_rfl) (by kernel_rfl) hQ ?hwt1sf0 ?hyt1sf0 ?restt1sf0
          case hit1sf0 => simp only [List.getElem?_toArray, List.getElem?_cons_zero]; rfl
          case hwt1sf0 => rfl
          case hyt1sf0 => intro W hW; go_simp; with_reducible rfl
          simp only [Act.put, List.setIfInBounds_toArray, List.set_cons_zero, List.set_cons_succ]
          refine ext_take (i := 1) (oi := ?oit1sf1) (v := ?vt1sf1) ?hit1sf1 (by kernel_rfl) (by kernel_rfl) (by kernel_rfl) hQ ?hwt1sf1 ?hyt1sf1 ?restt1sf1
          case hit1sf1 => simp only [List.getElem?_toArray, List.getElem?_cons_zero, List.getElem?_cons_succ]; rfl
          case hwt1sf1 => rfl
          case hyt1sf1 => intro W hW; go_simp; with_reducible rfl
          simp only [Act.put, List.setIfInBounds_toArray, List.set_cons_zero, List.set_cons_succ]
          refine ext_skip (i := 2) (oi := ?oit1sf2) ?hit1sf2 (by kernel_rfl) (by kernel_rfl) (by kernel_rfl) hQ ?hwt1sf2 ?restt1sf2
          case hit1sf2 => simp only [List.getElem?_toArray, List.getElem?_cons_zero, List.getElem?_cons_succ]; rfl
          case hwt1sf2 => rfl
          simp only [Act.put, List.setIfInBounds_toArray, List.set_cons_zero, List.set_cons_succ]
          refine ext_skip (i := 3) (oi := ?oit1sf3) ?hit1sf3 (by kernel_rfl) (by kernel_rfl) (by kernel_rfl) hQ ?hwt1sf3 ?restt1sf3
          case hit1sf3 => simp only [List.getElem?_toArray, List.getElem?_cons_zero, List.getElem?_cons_succ]; rfl
          case hwt1sf3 => rfl
          simp only [Act.put, List.setIfInBounds_toArray, List.set_cons_zero, List.set_cons_succ]
          refine ext_skip (i := 4) (oi := ?oit1sf4) ?hit1sf4 (by kernel_rfl) (by kernel_rfl) (by kernel_rfl) hQ ?hwt1sf4 ?restt1sf4
          case hit1sf4 => simp only [List.getElem?_toArray, List.getElem?_cons_zero, List.getElem?_cons_succ]; rfl
          case hwt1sf4 => rfl
          simp only [Act.put, List.setIfInBounds_toArray, List.set_cons_zero, List.set_cons_succ]
          refine ext_skip (i := 5) (oi := ?oit1sf5) ?hit1sf5 (by kernel_rfl) (by kernel_rfl) (by kernel_rfl) hQ ?hwt1sf5 ?restt1sf5
          case hit1sf5 => simp only [List.getElem?_toArray, List.getElem?_cons_zero, List.getElem?_cons_succ]; rfl
          case hwt1sf5 => rfl
          simp only [Act.put, List.setIfInBounds_toArray, List.set_cons_zero, List.set_cons_succ]
          refine ext_skip (i := 6) (oi := ?oit1sf6) ?hit1sf6 (by kernel_rfl) (by kernel_rfl) (by kernel_rfl) hQ ?hwt1sf6 ?restt1sf6
          case hit1sf6 => simp only [List.getElem?_toArray, List.getElem?_cons_zero, List.getElem?_cons_succ]; rfl
          case hwt1sf6 => rfl
          simp only [Act.put, List.setIfInBounds_toArray, List.set_cons_zero, List.set_cons_succ]
          refine ext_skip (i := 7) (oi := ?oit1sf7) ?hit1sf7 (by kernel_rfl) (by kernel_rfl) (by kernel_rfl) hQ ?hwt1sf7 ?restt1sf7
          case hit1sf7 => simp only [List.getElem?_toArray, List.getElem?_cons_zero, List.getElem?_cons_succ]; rfl
          case hwt1sf7 => rfl
          simp only [Act.put, List.setIfInBounds_toArray, List.set_cons_zero, List.set_cons_succ]
          refine ext_skip (i := 8) (oi := ?oit1sf8) ?hit1sf8 (by kernel_rfl) (by kernel_rfl) (by kernel_rfl) hQ ?hwt1sf8 ?restt1sf8
          case hit1sf8 => simp only [List.getElem?_toArray, List.getElem?_cons_zero, List.getElem?_cons_succ]; rfl
          case hwt1sf8 => rfl
          simp only [Act.put, List.setIfInBounds_toArray, List.set_cons_zero, List.set_cons_succ]
          refine ext_take (i := 9) (oi := ?oit1sf9) (v := ?vt1sf9) ?hit1sf9 (by kernel_rfl) (by kernel_rfl) (by kernel_rfl) hQ ?hwt1sf9 ?hyt1sf9 ?restt1sf9
          case hit1sf9 => simp only [List.getElem?_toArray, List.getElem?_cons_zero, List.getElem?_cons_succ]; rfl
          case hwt1sf9 => rfl
          case hyt1sf9 => intro W hW; go_simp; with_reducible rfl
          simp only [Act.put, List.setIfInBounds_toArray, List.set_cons_zero, List.set_cons_succ]
          refine ext_take (i := 10) (oi := ?oit1sf10) (v := ?vt1sf10) ?hit1sf10 (by kernel_rfl) (by kernel_rfl) (by kernel_rfl) hQ ?hwt1sf10 ?hyt1sf10 ?restt1sf10
          case hit1sf10 => simp only [List.getElem?_toArray, List.getElem?_cons_zero, List.getElem?_cons_succ]; rfl
          case hwt1sf10 => rfl
          case hyt1sf10 => intro W hW; go_simp; with_reducible rfl
          simp only [Act.put, List.setIfInBounds_toArray, List.set_cons_zero, List.set_cons_succ]
          refine wpAnyH_done (by kernel_rfl) ?_ _
          simp only [NoP]
          clear X_ho_0 X_ho_1 X_ho_2
          go_wp2_with fail
          go_roundw
          case rel => exact ⟨2, p + s, (v0), (hlf u), (0), (false), by omega, rfl, by go_num, by omega, by omega, fun _ => ⟨rfl, (by have h := HOK.out; rw [hdv, hfin] at h; exact h)⟩, by omega, (by repeat (first | with_reducible exact h2 | with_reducible (apply Blk.set_) | with_reducible (apply Blk.far; case hp => (simp <;> omega)) | with_reducible (apply Blk.alloc) | with_reducible (apply Blk.drew))), (by repeat (first | with_reducible exact h3 | with_reducible (apply Blk.set_) | with_reducible (apply Blk.far; case hp => (simp <;> omega)) | with_reducible (apply Blk.alloc) | with_reducible (apply Blk.drew))), (by repeat (first | with_reducible exact hn | with_reducible (apply Blk.set_) | with_reducible (apply Blk.far; case hp => (simp <;> omega)) | with_reducible (apply Blk.alloc) | with_reducible (apply Blk.drew))), (by repeat (first | with_reducible exact ho | with_reducible (apply Blk.set_) | with_reducible (apply Blk.far; case hp => (simp <;> omega)) | with_reducible (apply Blk.alloc) | with_reducible (apply Blk.drew))), (by have hs_ := hB.size; repeat (first | with_reducible exact hB | with_reducible (refine Below.setCell ?_ (by simp <;> omega) _) | with_reducible (refine Below.alloc ?_ (by first | exact hs_ | (simp <;> omega)) _) | with_reducible (refine Below.drew ?_)))⟩
          case measure => simp [intOf]
        · have hfin : (true && rdg l k1 p) = ftR (k1.toNat : Int) (hlf u) := by rw [HDG.out, hsg, hdv]; simp
          have z949 : x3.cell? ⟨(w.heap.size + 4), 0, none⟩ = some (.int .i64 v0) := (ho.cell 0).trans rfl
          have z950 := ho.frozen 0
          have z951 : x3.cell? ⟨(w.heap.size + 4), 1, none⟩ = some (.int .i64 0) := (ho.cell 1).trans rfl
          have z952 := ho.frozen 1
          have z953 : x3.cell? ⟨(w.heap.size + 4), 2, none⟩ = some (.int .i64 0) := (ho.cell 2).trans rfl
          have z954 := ho.frozen 2
          have z955 := h2.lt
          have z956 := h3.lt
          have z957 := hn.lt
          have z958 := ho.lt
          go_wp2_with fail
          clear z949 z950 z951 z952 z953 z954 z955 z956 z957 z958
          replace ho : Blk (x3.setCell ⟨w.heap.size + 4, 1, none⟩ (.int .i64 (hlf u))) (w.heap.size + 4) 58 #[.int .i64 v0, .int .i64 (hlf u), .int .i64 0] := ho.set_ 1 (.int .i64 (hlf u))
          replace h2 := h2.far (p := ⟨w.heap.size + 4, 1, none⟩) (by simp <;> omega) (.int .i64 (hlf u))
          replace h3 := h3.far (p := ⟨w.heap.size + 4, 1, none⟩) (by simp <;> omega) (.int .i64 (hlf u))
          replace hn := hn.far (p := ⟨w.heap.size + 4, 1, none⟩) (by simp <;> omega) (.int .i64 (hlf u))
          replace hB := hB.setCell (p := ⟨w.heap.size + 4, 1, none⟩) (by simp <;> omega) (.int .i64 (hlf u))
          generalize (x3.setCell ⟨w.heap.size + 4, 1, none⟩ (.int .i64 (hlf u))) = x8 at *
          refine nop_wp (ext_start (by kernel_rfl) calm_nop (fun hQ => ?_))
          replace h2 : Blk x8.drew (w.heap.size + 1) 39 #[.slice none 0 0, .int .i64 0] := (by repeat (first | with_reducible exact h2 | with_reducible (apply Blk.set_) | with_reducible (apply Blk.far; case hp => (simp <;> omega)) | with_reducible (apply Blk.alloc) | with_reducible (apply Blk.drew)))
          replace h3 : Blk x8.drew (w.heap.size + 2) 23 #[.int .u8 0, .int .i64 0, .int .i64 0, .int .i64 0] := (by repeat (first | with_reducible exact h3 | with_reducible (apply Blk.set_) | with_reducible (apply Blk.far; case hp => (simp <;> omega)) | with_reducible (apply Blk.alloc) | with_reducible (apply Blk.drew)))
          replace hn : Blk x8.drew (w.heap.size + 3) 39 #[.slice (some ad) n c, .int .i64 ((p + s : Nat) : Int)] := (by repeat (first | with_reducible exact hn | with_reducible (apply Blk.set_) | with_reducible (apply Blk.far; case hp => (simp <;> omega)) | with_reducible (apply Blk.alloc) | with_reducible (apply Blk.drew)))
          replace ho : Blk x8.drew (w.heap.size + 4) 58 #[.int .i64 v0, .int .i64 (hlf u), .int .i64 0] := (by repeat (first | with_reducible exact ho | with_reducible (apply Blk.set_) | with_reducible (apply Blk.far; case hp => (simp <;> omega)) | with_reducible (apply Blk.alloc) | with_reducible (apply Blk.drew)))
          replace hB : Below w.heap.size w x8.drew := Below.drew (by have hs_ := hB.size; repeat (first | with_reducible exact hB | with_reducible (refine Below.setCell ?_ (by simp <;> omega) _) | with_reducible (refine Below.alloc ?_ (by first | exact hs_ | (simp <;> omega)) _) | with_reducible (refine Below.drew ?_)))
          generalize x8.drew = x9 at *
          have X_ho_0 : ∀ W, Ext x9 W → W.cell? ⟨(w.heap.size + 4), 0, none⟩ = some (.int .i64 v0) := fun W h_ => ((ho.below h_ ho.lt).cell 0).trans rfl
          have X_ho_1 : ∀ W, Ext x9 W → W.cell? ⟨(w.heap.size + 4), 1, none⟩ = some (.int .i64 (hlf u)) := fun W h_ => ((ho.below h_ ho.lt).cell 1).trans rfl
          have X_ho_2 : ∀ W, Ext x9 W → W.cell? ⟨(w.heap.size + 4), 2, none⟩ = some (.int .i64 0) := fun W h_ => ((ho.below h_ ho.lt).cell 2).trans rfl
          refine ext_take (i := 0) (oi := ?oit1st0) (v := ?vt1st0) ?hit1st0 (by kernel_rfl) (by kernel_rfl) (by kernel_rfl) hQ ?hwt1st0 ?hyt1st0 ?restt1st0
          case hit1st0 => simp only [List.getElem?_toArray, List.getElem?_cons_zero]; rfl
          case hwt1st0 => rfl
          case hyt1st0 => intro W hW; go_simp; with_reducible rfl
          simp only [Act.put, List.setIfInBounds_toArray, List.set_cons_zero, List.set_cons_succ]
          refine ext_take (i := 1) (oi := ?oit1st1) (v := ?vt1st1) ?hit1st1 (by kernel_rfl) (by kernel_rfl) (by kernel_rfl) hQ ?hwt1st1 ?hyt1st1 ?restt1st1
          case hit1st1 => simp only [List.getElem?_toArray, List.getElem?_cons_zero, List.getElem?_cons_succ]; rfl
          case hwt1st1 => rfl
          case hyt1st1 => intro W hW; go_simp; with_reducible rfl
          simp only [Act.put, List.setIfInBounds_toArray, List.set_cons_zero, List.set_cons_succ]
          refine ext_take (i := 2) (oi := ?oit1st2) (v := ?vt1st2) ?hit1st2 (by kernel_rfl) (by kernel_rfl) (by kernel_rfl) hQ ?hwt1st2 ?hyt1st2 ?restt1st2
          case hit1st2 => simp only [List.getElem?_toArray, List.getElem?_cons_zero, List.getElem?_cons_succ]; rfl
          case hwt1st2 => rfl
          case hyt1st2 => intro W hW; go_simp; with_reducible rfl
          simp only [Act.put, List.setIfInBounds_toArray, List.set_cons_zero, List.set_cons_succ]
          refine ext_take (i := 3) (oi := ?oit1st3) (v := ?vt1st3) ?hit1st3 (by kernel_rfl) (by kernel_rfl) (by kernel_rfl) hQ ?hwt1st3 ?hyt1st3 ?restt1st3
          case hit1st3 => simp only [List.getElem?_toArray, List.getElem?_cons_zero, List.getElem?_cons_succ]; rfl
          case hwt1st3 => rfl
          case hyt1st3 => intro W hW; go_simp; with_reducible rfl
          simp only [Act.put, List.setIfInBounds_toArray, List.set_cons_zero, List.set_cons_succ]
          refine ext_take (i := 4) (oi := ?oit1st4) (v := ?vt1st4) ?hit1st4 (by kernel_rfl) (by kernel_rfl) (by kernel_rfl) hQ ?hwt1st4 ?hyt1st4 ?restt1st4
          case hit1st4 => simp only [List.getElem?_toArray, List.getElem?_cons_zero, List.getElem?_cons_succ]; rfl
          case hwt1st4 => rfl
          case hyt1st4 => intro W hW; go_simp; with_reducible rfl
          simp only [Act.put, List.setIfInBounds_toArray, List.set_cons_zero, List.set_cons_succ]
          refine ext_take (i := 5) (oi := ?oit1st5) (v := ?vt1st5) ?hit1st5 (by kernel_rfl) (by kernel_rfl) (by kernel_rfl) hQ ?hwt1st5 ?hyt1st5 ?restt1st5
          case hit1st5 => simp only [List.getElem?_toArray, List.getElem?_cons_zero, List.getElem?_cons_succ]; rfl
          case hwt1st5 => rfl
          case hyt1st5 => intro W hW; go_simp; with_reducible rfl
          simp only [Act.put, List.setIfInBounds_toArray, List.set_cons_zero, List.set_cons_succ]
          refine ext_take (i := 6) (oi := ?oit1st6) (v := ?vt1st6) ?hit1st6 (by kernel_rfl) (by kernel_rfl) (by kernel_rfl) hQ ?hwt1st6 ?hyt1st6 ?restt1st6
          case hit1st6 => simp only [List.getElem?_toArray, List.getElem?_cons_zero, List.getElem?_cons_succ]; rfl
          case hwt1st6 => rfl
          case hyt1st6 => intro W hW; go_simp; with_reducible rfl
          simp only [Act.put, List.setIfInBounds_toArray, List.set_cons_zero, List.set_cons_succ]
          refine ext_take (i := 7) (oi := ?oit1st7) (v := ?vt1st7) ?hit1st7 (by kernel_rfl) (by kernel_rfl) (by kernel_rfl) hQ ?hwt1st7 ?hyt1st7 ?restt1st7
          case hit1st7 => simp only [List.getElem?_toArray, List.getElem?_cons_zero, List.getElem?_cons_succ]; rfl
          case hwt1st7 => rfl
          case hyt1st7 => intro W hW; go_simp; with_reducible rfl
          simp only [Act.put, List.setIfInBounds_toArray, List.set_cons_zero, List.set_cons_succ]
          refine ext_step (i := 8) (oi := ?oit1st8) (by kernel_rfl) ?hit1st8 ?hwt1st8 (fun K hK => ?_)
          case hit1st8 => simp only [List.getElem?_toArray, List.getElem?_cons_zero, List.getElem?_cons_succ]; rfl
          case hwt1st8 => rfl
          go_simp
          refine (ftR_b k1 (hlf u) hrg _).mono ?_; rintro e wq ⟨rfl, rfl⟩; refine hK _ _ (Ext.refl _) ?_
          try simp only [Act.put, List.setIfInBounds_toArray, List.set_cons_zero, List.set_cons_succ]
          refine ext_take (i := 9) (oi := ?oit1st9) (v := ?vt1st9) ?hit1st9 (by kernel_rfl) (by kernel_rfl) (by kernel_rfl) hQ ?hwt1st9 ?hyt1st9 ?restt1st9
          case hit1st9 => simp only [List.getElem?_toArray, List.getElem?_cons_zero, List.getElem?_cons_succ]; rfl
          case hwt1st9 => rfl
          case hyt1st9 => intro W hW; go_simp; with_reducible rfl
          simp only [Act.put, List.setIfInBounds_toArray, List.set_cons_zero, List.set_cons_succ]
          refine ext_take (i := 10) (oi := ?oit1st10) (v := ?vt1st10) ?hit1st10 (by kernel_rfl) (by kernel_rfl) (by kernel_rfl) hQ ?hwt1st10 ?hyt1st10 ?restt1st10
          case hit1st10 => simp only [List.getElem?_toArray, List.getElem?_cons_zero, List.getElem?_cons_succ]; rfl
          case hwt1st10 => rfl
          case hyt1st10 => intro W hW; go_simp; with_reducible rfl
          simp only [Act.put, List.setIfInBounds_toArray, List.set_cons_zero, List.set_cons_succ]
          refine wpAnyH_done (by kernel_rfl) ?_ _
          simp only [NoP]
          clear X_ho_0 X_ho_1 X_ho_2
          go_wp2_with fail
          go_roundw
          case rel => exact ⟨2, p + s, (v0), (hlf u), (0), (ftR (k1.toNat : Int) (hlf u)), by omega, rfl, by go_num, by omega, by omega, fun _ => ⟨rfl, (by have h := HOK.out; rw [hdv, hfin] at h; exact h)⟩, by omega, (by repeat (first | with_reducible exact h2 | with_reducible (apply Blk.set_) | with_reducible (apply Blk.far; case hp => (simp <;> omega)) | with_reducible (apply Blk.alloc) | with_reducible (apply Blk.drew))), (by repeat (first | with_reducible exact h3 | with_reducible (apply Blk.set_) | with_reducible (apply Blk.far; case hp => (simp <;> omega)) | with_reducible (apply Blk.alloc) | with_reducible (apply Blk.drew))), (by repeat (first | with_reducible exact hn | with_reducible (apply Blk.set_) | with_reducible (apply Blk.far; case hp => (simp <;> omega)) | with_reducible (apply Blk.alloc) | with_reducible (apply Blk.drew))), (by repeat (first | with_reducible exact ho | with_reducible (apply Blk.set_) | with_reducible (apply Blk.far; case hp => (simp <;> omega)) | with_reducible (apply Blk.alloc) | with_reducible (apply Blk.drew))), (by have hs_ := hB.size; repeat (first | with_reducible exact hB | with_reducible (refine Below.setCell ?_ (by simp <;> omega) _) | with_reducible (refine Below.alloc ?_ (by first | exact hs_ | (simp <;> omega)) _) | with_reducible (refine Below.drew ?_)))⟩
          case measure => simp [intOf]
      · replace hsg : sgR (k1.toNat : Int) = false := by simpa using hsg
        rw [hsg]
        have hdv : rdv l k1 p = (u : Int) % 1000 := by rw [HDV.out, hsg]; rfl
        have hrg : -9223372036854775808 ≤ (u : Int) % 1000 ∧ (u : Int) % 1000 ≤ 9223372036854775807 := by omega
        cases f
        · have hfin : (false && rdg l k1 p) = false := rfl
          have z939 : x2.cell? ⟨(w.heap.size + 4), 0, none⟩ = some (.int .i64 v0) := (ho.cell 0).trans rfl
          have z940 := ho.frozen 0
          have z941 : x2.cell? ⟨(w.heap.size + 4), 1, none⟩ = some (.int .i64 0) := (ho.cell 1).trans rfl
          have z942 := ho.frozen 1
          have z943 : x2.cell? ⟨(w.heap.size + 4), 2, none⟩ = some (.int .i64 0) := (ho.cell 2).trans rfl
          have z944 := ho.frozen 2
          have z945 := h2.lt
          have z946 := h3.lt
          have z947 := hn.lt
          have z948 := ho.lt
          go_wp2_with fail
          clear z939 z940 z941 z942 z943 z944 z945 z946 z947 z948
          replace ho : Blk (x2.setCell ⟨w.heap.size + 4, 1, none⟩ (.int .i64 ((u : Int) % 1000))) (w.heap.size + 4) 58 #[.int .i64 v0, .int .i64 ((u : Int) % 1000), .int .i64 0] := ho.set_ 1 (.int .i64 ((u : Int) % 1000))
          replace h2 := h2.far (p := ⟨w.heap.size + 4, 1, none⟩) (by simp <;> omega) (.int .i64 ((u : Int) % 1000))
          replace h3 := h3.far (p := ⟨w.heap.size + 4, 1, none⟩) (by simp <;> omega) (.int .i64 ((u : Int) % 1000))
          replace hn := hn.far (p := ⟨w.heap.size + 4, 1, none⟩) (by simp <;> omega) (.int .i64 ((u : Int) % 1000))
          replace hB := hB.setCell (p := ⟨w.heap.size + 4, 1, none⟩) (by simp <;> omega) (.int .i64 ((u : Int) % 1000))
          generalize (x2.setCell ⟨w.heap.size + 4, 1, none⟩ (.int .i64 ((u : Int) % 1000))) = x8 at *
          refine nop_wp (ext_start (by kernel_rfl) calm_nop (fun hQ => ?_))
          replace h2 : Blk x8.drew (w.heap.size + 1) 39 #[.slice none 0 0, .int .i64 0] := (by repeat (first | with_reducible exact h2 | with_reducible (apply Blk.set_) | with_reducible (apply Blk.far; case hp => (simp <;> omega)) | with_reducible (apply Blk.alloc) | with_reducible (apply Blk.drew)))
          replace h3 : Blk x8.drew (w.heap.size + 2) 23 #[.int .u8 0, .int .i64 0, .int .i64 0, .int .i64 0] := (by repeat (first | with_reducible exact h3 | with_reducible (apply Blk.set_) | with_reducible (apply Blk.far; case hp => (simp <;> omega)) | with_reducible (apply Blk.alloc) | with_reducible (apply Blk.drew)))
          replace hn : Blk x8.drew (w.heap.size + 3) 39 #[.slice (some ad) n c, .int .i64 ((p + s : Nat) : Int)] := (by repeat (first | with_reducible exact hn | with_reducible (apply Blk.set_) | with_reducible (apply Blk.far; case hp => (simp <;> omega)) | with_reducible (apply Blk.alloc) | with_reducible (apply Blk.drew)))
          replace ho : Blk x8.drew (w.heap.size + 4) 58 #[.int .i64 v0, .int .i64 ((u : Int) % 1000), .int .i64 0] := (by repeat (first | with_reducible exact ho | with_reducible (apply Blk.set_) | with_reducible (apply Blk.far; case hp => (simp <;> omega)) | with_reducible (apply Blk.alloc) | with_reducible (apply Blk.drew)))
          replace hB : Below w.heap.size w x8.drew := Below.drew (by have hs_ := hB.size; repeat (first | with_reducible exact hB | with_reducible (refine Below.setCell ?_ (by simp <;> omega) _) | with_reducible (refine Below.alloc ?_ (by first | exact hs_ | (simp <;> omega)) _) | with_reducible (refine Below.drew ?_)))
          generalize x8.drew = x9 at *
          have X_ho_0 : ∀ W, Ext x9 W → W.cell? ⟨(w.heap.size + 4), 0, none⟩ = some (.int .i64 v0) := fun W h_ => ((ho.below h_ ho.lt).cell 0).trans rfl
          have X_ho_1 : ∀ W, Ext x9 W → W.cell? ⟨(w.heap.size + 4), 1, none⟩ = some (.int .i64 ((u : Int) % 1000)) := fun W h_ => ((ho.below h_ ho.lt).cell 1).trans rfl
          have X_ho_2 : ∀ W, Ext x9 W → W.cell? ⟨(w.heap.size + 4), 2, none⟩ = some (.int .i64 0) := fun W h_ => ((ho.below h_ ho.lt).cell 2).trans rfl
          refine ext_take (i := 0) (oi := ?oit1uf0) (v := ?vt1uf0) ?hit1uf0 (by kernel_rfl) (by kernel_rfl) (by kernel_rfl) hQ ?hwt1uf0 ?hyt1uf0 ?restt1uf0
          case hit1uf0 => simp only [List.getElem?_toArray, List.getElem?_cons_zero]; rfl
          case hwt1uf0 => rfl
          case hyt1uf0 => intro W hW; go_simp; with_reducible rfl
          simp only [Act.put, List.setIfInBounds_toArray, List.set_cons_zero, List.set_cons_succ]
          refine ext_take (i := 1) (oi := ?oit1uf1) (v := ?vt1uf1) ?hit1uf1 (by kernel_rfl) (by kernel_rfl) (by kernel_rfl) hQ ?hwt1uf1 ?hyt1uf1 ?restt1uf1
          case hit1uf1 => simp only [List.getElem?_toArray, List.getElem?_cons_zero, List.getElem?_cons_succ]; rfl
          case hwt1uf1 => rfl
          case hyt1uf1 => intro W hW; go_simp; with_reducible rfl
          simp only [Act.put, List.setIfInBounds_toArray, List.set_cons_zero, List.set_cons_succ]
          refine ext_skip (i := 2) (oi := ?oit1uf2) ?hit1uf2 (by kernel_rfl) (by kernel_rfl) (by kernel_rfl) hQ ?hwt1uf2 ?restt1uf2
          case hit1uf2 => simp only [List.getElem?_toArray, List.getElem?_cons_zero, List.getElem?_cons_succ]; rfl
          case hwt1uf2 => rfl
          simp only [Act.put, List.setIfInBounds_toArray, List.set_cons_zero, List.set_cons_succ]
          refine ext_skip (i := 3) (oi := ?oit1uf3) ?hit1uf3 (by kernel_rfl) (by kernel_rfl) (by kernel_rfl) hQ ?hwt1uf3 ?restt1uf3
          case hit1uf3 => simp only [List.getElem?_toArray, List.getElem?_cons_zero, List.getElem?_cons_succ]; rfl
          case hwt1uf3 => rfl
          simp only [Act.put, List.setIfInBounds_toArray, List.set_cons_zero, List.set_cons_succ]
          refine ext_skip (i := 4) (oi := ?oit1uf4) ?hit1uf4 (by kernel_rfl) (by kernel_rfl) (by kernel_rfl) hQ ?hwt1uf4 ?restt1uf4
          case hit1uf4 => simp only [List.getElem?_toArray, List.getElem?_cons_zero, List.getElem?_cons_succ]; rfl
          case hwt1uf4 => rfl
          simp only [Act.put, List.setIfInBounds_toArray, List.set_cons_zero, List.set_cons_succ]
          refine ext_skip (i := 5) (oi := ?oit1uf5) ?hit1uf5 (by kernel_rfl) (by kernel_rfl) (by kernel_rfl) hQ ?hwt1uf5 ?restt1uf5
          case hit1uf5 => simp only [List.getElem?_toArray, List.getElem?_cons_zero, List.getElem?_cons_succ]; rfl
          case hwt1uf5 => rfl
          simp only [Act.put, List.setIfInBounds_toArray, List.set_cons_zero, List.set_cons_succ]
          refine ext_skip (i := 6) (oi := ?oit1uf6) ?hit1uf6 (by kernel_rfl) (by kernel_rfl) (by kernel_rfl) hQ ?hwt1uf6 ?restt1uf6
          case hit1uf6 => simp only [List.getElem?_toArray, List.getElem?_cons_zero, List.getElem?_cons_succ]; rfl
          case hwt1uf6 => rfl
          simp only [Act.put, List.setIfInBounds_toArray, List.set_cons_zero, List.set_cons_succ]
          refine ext_skip (i := 7) (oi := ?oit1uf7) ?hit1uf7 (by kernel_rfl) (by kernel_rfl) (by kernel_rfl) hQ ?hwt1uf7 ?restt1uf7
          case hit1uf7 => simp only [List.getElem?_toArray, List.getElem?_cons_zero, List.getElem?_cons_succ]; rfl
          case hwt1uf7 => rfl
          simp only [Act.put, List.setIfInBounds_toArray, List.set_cons_zero, List.set_cons_succ]
          refine ext_skip (i := 8) (oi := ?oit1uf8) ?hit1uf8 (by kernel_rfl) (by kernel_rfl) (by kernel_rfl) hQ ?hwt1uf8 ?restt1uf8
          case hit1uf8 => simp only [List.getElem?_toArray, List.getElem?_cons_zero, List.getElem?_cons_succ]; rfl
          case hwt1uf8 => rfl
          simp only [Act.put, List.setIfInBounds_toArray, List.set_cons_zero, List.set_cons_succ]
          refine ext_take (i := 9) (oi := ?oit1uf9) (v := ?vt1uf9) ?hit1uf9 (by kernel_rfl) (by kernel_rfl) (by kernel_rfl) hQ ?hwt1uf9 ?hyt1uf9 ?restt1uf9
          case hit1uf9 => simp only [List.getElem?_toArray, List.getElem?_cons_zero, List.getElem?_cons_succ]; rfl
          case hwt1uf9 => rfl
          case hyt1uf9 => intro W hW; go_simp; with_reducible rfl
          simp only [Act.put, List.setIfInBounds_toArray, List.set_cons_zero, List.set_cons_succ]
          refine ext_take (i := 10) (oi := ?oit1uf10) (v := ?vt1uf10) ?hit1uf10 (by kernel_rfl) (by kernel_rfl) (by kernel_rfl) hQ ?hwt1uf10 ?hyt1uf10 ?restt1uf10
          case hit1uf10 => simp only [List.getElem?_toArray, List.getElem?_cons_zero, List.getElem?_cons_succ]; rfl
          case hwt1uf10 => rfl
          case hyt1uf10 => intro W hW; go_simp; with_reducible rfl
          simp only [Act.put, List.setIfInBounds_toArray, List.set_cons_zero, List.set_cons_succ]
          refine wpAnyH_done (by kernel_rfl) ?_ _
          simp only [NoP]
          clear X_ho_0 X_ho_1 X_ho_2
          go_wp2_with fail
          go_roundw
          case rel => exact ⟨2, p + s, (v0), ((u : Int) % 1000), (0), (false), by omega, rfl, by go_num, by omega, by omega, fun _ => ⟨rfl, (by have h := HOK.out; rw [hdv, hfin] at h; exact h)⟩, by omega, (by repeat (first | with_reducible exact h2 | with_reducible (apply Blk.set_) | with_reducible (apply Blk.far; case hp => (simp <;> omega)) | with_reducible (apply Blk.alloc) | with_reducible (apply Blk.drew))), (by repeat (first | with_reducible exact h3 | with_reducible (apply Blk.set_) | with_reducible (apply Blk.far; case hp => (simp <;> omega)) | with_reducible (apply Blk.alloc) | with_reducible (apply Blk.drew))), (by repeat (first | with_reducible exact hn | with_reducible (apply Blk.set_) | with_reducible (apply Blk.far; case hp => (simp <;> omega)) | with_reducible (apply Blk.alloc) | with_reducible (apply Blk.drew))), (by repeat (first | with_reducible exact ho | with_reducible (apply Blk.set_) | with_reducible (apply Blk.far; case hp => (simp <;> omega)) | with_reducible (apply Blk.alloc) | with_reducible (apply Blk.drew))), (by have hs_ := hB.size; repeat (first | with_reducible exact hB | with_reducible (refine Below.setCell ?_ (by simp <;> omega) _) | with_reducible (refine Below.alloc ?_ (by first | exact hs_ | (simp <;> omega)) _) | with_reducible (refine Below.drew ?_)))⟩
          case measure => simp [intOf]
        by_cases huc : u < 1000
        · have d1 : decide ((u : Int) < 1000) = true := by simp; omega
          have hfin : (true && rdg l k1 p) = ftR (k1.toNat : Int) ((u : Int) % 1000) := by rw [HDG.out, hsg, hdv]; simp [huc]
          have z939 : x2.cell? ⟨(w.heap.size + 4), 0, none⟩ = some (.int .i64 v0) := (ho.cell 0).trans rfl
          have z940 := ho.frozen 0
          have z941 : x2.cell? ⟨(w.heap.size + 4), 1, none⟩ = some (.int .i64 0) := (ho.cell 1).trans rfl
          have z942 := ho.frozen 1
          have z943 : x2.cell? ⟨(w.heap.size + 4), 2, none⟩ = some (.int .i64 0) := (ho.cell 2).trans rfl
          have z944 := ho.frozen 2
          have z945 := h2.lt
          have z946 := h3.lt
          have z947 := hn.lt
          have z948 := ho.lt
          go_wp2_with fail
          clear z939 z940 z941 z942 z943 z944 z945 z946 z947 z948
          replace ho : Blk (x2.setCell ⟨w.heap.size + 4, 1, none⟩ (.int .i64 ((u : Int) % 1000))) (w.heap.size + 4) 58 #[.int .i64 v0, .int .i64 ((u : Int) % 1000), .int .i64 0] := ho.set_ 1 (.int .i64 ((u : Int) % 1000))
          replace h2 := h2.far (p := ⟨w.heap.size + 4, 1, none⟩) (by simp <;> omega) (.int .i64 ((u : Int) % 1000))
          replace h3 := h3.far (p := ⟨w.heap.size + 4, 1, none⟩) (by simp <;> omega) (.int .i64 ((u : Int) % 1000))
          replace hn := hn.far (p := ⟨w.heap.size + 4, 1, none⟩) (by simp <;> omega) (.int .i64 ((u : Int) % 1000))
          replace hB := hB.setCell (p := ⟨w.heap.size + 4, 1, none⟩) (by simp <;> omega) (.int .i64 ((u : Int) % 1000))
          generalize (x2.setCell ⟨w.heap.size + 4, 1, none⟩ (.int .i64 ((u : Int) % 1000))) = x8 at *
          refine nop_wp (ext_start (by kernel_rfl) calm_nop (fun hQ => ?_))
          replace h2 : Blk x8.drew (w.heap.size + 1) 39 #[.slice none 0 0, .int .i64 0] := (by repeat (first | with_reducible exact h2 | with_reducible (apply Blk.set_) | with_reducible (apply Blk.far; case hp => (simp <;> omega)) | with_reducible (apply Blk.alloc) | with_reducible (apply Blk.drew)))
          replace h3 : Blk x8.drew (w.heap.size + 2) 23 #[.int .u8 0, .int .i64 0, .int .i64 0, .int .i64 0] := (by repeat (first | with_reducible exact h3 | with_reducible (apply Blk.set_) | with_reducible (apply Blk.far; case hp => (simp <;> omega)) | with_reducible (apply Blk.alloc) | with_reducible (apply Blk.drew)))
          replace hn : Blk x8.drew (w.heap.size + 3) 39 #[.slice (some ad) n c, .int .i64 ((p + s : Nat) : Int)] := (by repeat (first | with_reducible exact hn | with_reducible (apply Blk.set_) | with_reducible (apply Blk.far; case hp => (simp <;> omega)) | with_reducible (apply Blk.alloc) | with_reducible (apply Blk.drew)))
          replace ho : Blk x8.drew (w.heap.size + 4) 58 #[.int .i64 v0, .int .i64 ((u : Int) % 1000), .int .i64 0] := (by repeat (first | with_reducible exact ho | with_reducible (apply Blk.set_) | with_reducible (apply Blk.far; case hp => (simp <;> omega)) | with_reducible (apply Blk.alloc) | with_reducible (apply Blk.drew)))
          replace hB : Below w.heap.size w x8.drew := Below.drew (by have hs_ := hB.size; repeat (first | with_reducible exact hB | with_reducible (refine Below.setCell ?_ (by simp <;> omega) _) | with_reducible (refine Below.alloc ?_ (by first | exact hs_ | (simp <;> omega)) _) | with_reducible (refine Below.drew ?_)))
          generalize x8.drew = x9 at *
          have X_ho_0 : ∀ W, Ext x9 W → W.cell? ⟨(w.heap.size + 4), 0, none⟩ = some (.int .i64 v0) := fun W h_ => ((ho.below h_ ho.lt).cell 0).trans rfl
          have X_ho_1 : ∀ W, Ext x9 W → W.cell? ⟨(w.heap.size + 4), 1, none⟩ = some (.int .i64 ((u : Int) % 1000)) := fun W h_ => ((ho.below h_ ho.lt).cell 1).trans rfl
          have X_ho_2 : ∀ W, Ext x9 W → W.cell? ⟨(w.heap.size + 4), 2, none⟩ = some (.int .i64 0) := fun W h_ => ((ho.below h_ ho.lt).cell 2).trans rfl
          refine ext_take (i := 0) (oi := ?oit1utlt0) (v := ?vt1utlt0) ?hit1utlt0 (by kernel_rfl) (by kernel_rfl) (by kernel_rfl) hQ ?hwt1utlt0 ?hyt1utlt0 ?restt1utlt0
          case hit1utlt0 => simp only [List.getElem?_toArray, List.getElem?_cons_zero]; rfl
          case hwt1utlt0 => rfl
          case hyt1utlt0 => intro W hW; go_simp; with_reducible rfl
          simp only [Act.put, List.setIfInBounds_toArray, List.set_cons_zero, List.set_cons_succ]
          refine ext_take (i := 1) (oi := ?oit1utlt1) (v := ?vt1utlt1) ?hit1utlt1 (by kernel_rfl) (by kernel_rfl) (by kernel_rfl) hQ ?hwt1utlt1 ?hyt1utlt1 ?restt1utlt1
          case hit1utlt1 => simp only [List.getElem?_toArray, List.getElem?_cons_zero, List.getElem?_cons_succ]; rfl
          case hwt1utlt1 => rfl
          case hyt1utlt1 => intro W hW; go_simp; with_reducible rfl
          simp only [Act.put, List.setIfInBounds_toArray, List.set_cons_zero, List.set_cons_succ]
          refine ext_take (i := 2) (oi := ?oit1utlt2) (v := ?vt1utlt2) ?hit1utlt2 (by kernel_rfl) (by kernel_rfl) (by kernel_rfl) hQ ?hwt1utlt2 ?hyt1utlt2 ?restt1utlt2
          case hit1utlt2 => simp only [List.getElem?_toArray, List.getElem?_cons_zero, List.getElem?_cons_succ]; rfl
          case hwt1utlt2 => rfl
          case hyt1utlt2 => intro W hW; go_simp; with_reducible rfl
          simp only [Act.put, List.setIfInBounds_toArray, List.set_cons_zero, List.set_cons_succ]
          refine ext_take (i := 3) (oi := ?oit1utlt3) (v := ?vt1utlt3) ?hit1utlt3 (by kernel_rfl) (by kernel_rfl) (by kernel_rfl) hQ ?hwt1utlt3 ?hyt1utlt3 ?restt1utlt3
          case hit1utlt3 => simp only [List.getElem?_toArray, List.getElem?_cons_zero, List.getElem?_cons_succ]; rfl
          case hwt1utlt3 => rfl
          case hyt1utlt3 => intro W hW; go_simp; with_reducible rfl
          simp only [Act.put, List.setIfInBounds_toArray, List.set_cons_zero, List.set_cons_succ]
          refine ext_take (i := 4) (oi := ?oit1utlt4) (v := ?vt1utlt4) ?hit1utlt4 (by kernel_rfl) (by kernel_rfl) (by kernel_rfl) hQ ?hwt1utlt4 ?hyt1utlt4 ?restt1utlt4
          case hit1utlt4 => simp only [List.getElem?_toArray, List.getElem?_cons_zero, List.getElem?_cons_succ]; rfl
          case hwt1utlt4 => rfl
          case hyt1utlt4 => intro W hW; go_simp; with_reducible rfl
          simp only [Act.put, List.setIfInBounds_toArray, List.set_cons_zero, List.set_cons_succ]
          refine ext_take (i := 5) (oi := ?oit1utlt5) (v := ?vt1utlt5) ?hit1utlt5 (by kernel_rfl) (by kernel_rfl) (by kernel_rfl) hQ ?hwt1utlt5 ?hyt1utlt5 ?restt1utlt5
          case hit1utlt5 => simp only [List.getElem?_toArray, List.getElem?_cons_zero, List.getElem?_cons_succ]; rfl
          case hwt1utlt5 => rfl
          case hyt1utlt5 => intro W hW; go_simp; with_reducible rfl
          simp only [Act.put, List.setIfInBounds_toArray, List.set_cons_zero, List.set_cons_succ]
          refine ext_take (i := 6) (oi := ?oit1utlt6) (v := ?vt1utlt6) ?hit1utlt6 (by kernel_rfl) (by kernel_rfl) (by kernel_rfl) hQ ?hwt1utlt6 ?hyt1utlt6 ?restt1utlt6
          case hit1utlt6 => simp only [List.getElem?_toArray, List.getElem?_cons_zero, List.getElem?_cons_succ]; rfl
          case hwt1utlt6 => rfl
          case hyt1utlt6 => intro W hW; go_simp; with_reducible rfl
          simp only [Act.put, List.setIfInBounds_toArray, List.set_cons_zero, List.set_cons_succ]
          refine ext_take (i := 7) (oi := ?oit1utlt7) (v := ?vt1utlt7) ?hit1utlt7 (by kernel_rfl) (by kernel_rfl) (by kernel_rfl) hQ ?hwt1utlt7 ?hyt1utlt7 ?restt1utlt7
          case hit1utlt7 => simp only [List.getElem?_toArray, List.getElem?_cons_zero, List.getElem?_cons_succ]; rfl
          case hwt1utlt7 => rfl
          case hyt1utlt7 => intro W hW; go_simp; with_reducible rfl
          simp only [Act.put, List.setIfInBounds_toArray, List.set_cons_zero, List.set_cons_succ]
          refine ext_step (i := 8) (oi := ?oit1utlt8) (by kernel_rfl) ?hit1utlt8 ?hwt1utlt8 (fun K hK => ?_)
          case hit1utlt8 => simp only [List.getElem?_toArray, List.getElem?_cons_zero, List.getElem?_cons_succ]; rfl
          case hwt1utlt8 => rfl
          go_simp
          refine (ftR_b k1 ((u : Int) % 1000) hrg _).mono ?_; rintro e wq ⟨rfl, rfl⟩; refine hK _ _ (Ext.refl _) ?_
          try simp only [Act.put, List.setIfInBounds_toArray, List.set_cons_zero, List.set_cons_succ]
          refine ext_take (i := 9) (oi := ?oit1utlt9) (v := ?vt1utlt9) ?hit1utlt9 (by kernel_rfl) (by kernel_rfl) (by kernel_rfl) hQ ?hwt1utlt9 ?hyt1utlt9 ?restt1utlt9
          case hit1utlt9 => simp only [List.getElem?_toArray, List.getElem?_cons_zero, List.getElem?_cons_succ]; rfl
          case hwt1utlt9 => rfl
          case hyt1utlt9 => intro W hW; go_simp; with_reducible rfl
          simp only [Act.put, List.setIfInBounds_toArray, List.set_cons_zero, List.set_cons_succ]
          refine ext_take (i := 10) (oi := ?oit1utlt10) (v := ?vt1utlt10) ?hit1utlt10 (by kernel_rfl) (by kernel_rfl) (by kernel_rfl) hQ ?hwt1utlt10 ?hyt1utlt10 ?restt1utlt10
          case hit1utlt10 => simp only [List.getElem?_toArray, List.getElem?_cons_zero, List.getElem?_cons_succ]; rfl
          case hwt1utlt10 => rfl
          case hyt1utlt10 => intro W hW; go_simp; with_reducible rfl
          simp only [Act.put, List.setIfInBounds_toArray, List.set_cons_zero, List.set_cons_succ]
          refine wpAnyH_done (by kernel_rfl) ?_ _
          simp only [NoP]
          clear X_ho_0 X_ho_1 X_ho_2
          go_wp2_with fail
          go_roundw
          case rel => exact ⟨2, p + s, (v0), ((u : Int) % 1000), (0), (ftR (k1.toNat : Int) ((u : Int) % 1000)), by omega, rfl, by go_num, by omega, by omega, fun _ => ⟨rfl, (by have h := HOK.out; rw [hdv, hfin] at h; exact h)⟩, by omega, (by repeat (first | with_reducible exact h2 | with_reducible (apply Blk.set_) | with_reducible (apply Blk.far; case hp => (simp <;> omega)) | with_reducible (apply Blk.alloc) | with_reducible (apply Blk.drew))), (by repeat (first | with_reducible exact h3 | with_reducible (apply Blk.set_) | with_reducible (apply Blk.far; case hp => (simp <;> omega)) | with_reducible (apply Blk.alloc) | with_reducible (apply Blk.drew))), (by repeat (first | with_reducible exact hn | with_reducible (apply Blk.set_) | with_reducible (apply Blk.far; case hp => (simp <;> omega)) | with_reducible (apply Blk.alloc) | with_reducible (apply Blk.drew))), (by repeat (first | with_reducible exact ho | with_reducible (apply Blk.set_) | with_reducible (apply Blk.far; case hp => (simp <;> omega)) | with_reducible (apply Blk.alloc) | with_reducible (apply Blk.drew))), (by have hs_ := hB.size; repeat (first | with_reducible exact hB | with_reducible (refine Below.setCell ?_ (by simp <;> omega) _) | with_reducible (refine Below.alloc ?_ (by first | exact hs_ | (simp <;> omega)) _) | with_reducible (refine Below.drew ?_)))⟩
          case measure => simp [intOf]
        · have d1 : decide ((u : Int) < 1000) = false := by simp; omega
          have hfin : (true && rdg l k1 p) = false := by rw [HDG.out, hsg, hdv]; simp [huc]
          have z939 : x2.cell? ⟨(w.heap.size + 4), 0, none⟩ = some (.int .i64 v0) := (ho.cell 0).trans rfl
          have z940 := ho.frozen 0
          have z941 : x2.cell? ⟨(w.heap.size + 4), 1, none⟩ = some (.int .i64 0) := (ho.cell 1).trans rfl
          have z942 := ho.frozen 1
          have z943 : x2.cell? ⟨(w.heap.size + 4), 2, none⟩ = some (.int .i64 0) := (ho.cell 2).trans rfl
          have z944 := ho.frozen 2
          have z945 := h2.lt
          have z946 := h3.lt
          have z947 := hn.lt
          have z948 := ho.lt
          go_wp2_with fail
          clear z939 z940 z941 z942 z943 z944 z945 z946 z947 z948
          replace ho : Blk (x2.setCell ⟨w.heap.size + 4, 1, none⟩ (.int .i64 ((u : Int) % 1000))) (w.heap.size + 4) 58 #[.int .i64 v0, .int .i64 ((u : Int) % 1000), .int .i64 0] := ho.set_ 1 (.int .i64 ((u : Int) % 1000))
          replace h2 := h2.far (p := ⟨w.heap.size + 4, 1, none⟩) (by simp <;> omega) (.int .i64 ((u : Int) % 1000))
          replace h3 := h3.far (p := ⟨w.heap.size + 4, 1, none⟩) (by simp <;> omega) (.int .i64 ((u : Int) % 1000))
          replace hn := hn.far (p := ⟨w.heap.size + 4, 1, none⟩) (by simp <;> omega) (.int .i64 ((u : Int) % 1000))
          replace hB := hB.setCell (p := ⟨w.heap.size + 4, 1, none⟩) (by simp <;> omega) (.int .i64 ((u : Int) % 1000))
          generalize (x2.setCell ⟨w.heap.size + 4, 1, none⟩ (.int .i64 ((u : Int) % 1000))) = x8 at *
          refine nop_wp (ext_start (by kernel_rfl) calm_nop (fun hQ => ?_))
          replace h2 : Blk x8.drew (w.heap.size + 1) 39 #[.slice none 0 0, .int .i64 0] := (by repeat (first | with_reducible exact h2 | with_reducible (apply Blk.set_) | with_reducible (apply Blk.far; case hp => (simp <;> omega)) | with_reducible (apply Blk.alloc) | with_reducible (apply Blk.drew)))
          replace h3 : Blk x8.drew (w.heap.size + 2) 23 #[.int .u8 0, .int .i64 0, .int .i64 0, .int .i64 0] := (by repeat (first | with_reducible exact h3 | with_reducible (apply Blk.set_) | with_reducible (apply Blk.far; case hp => (simp <;> omega)) | with_reducible (apply Blk.alloc) | with_reducible (apply Blk.drew)))
          replace hn : Blk x8.drew (w.heap.size + 3) 39 #[.slice (some ad) n c, .int .i64 ((p + s : Nat) : Int)] := (by repeat (first | with_reducible exact hn | with_reducible (apply Blk.set_) | with_reducible (apply Blk.far; case hp => (simp <;> omega)) | with_reducible (apply Blk.alloc) | with_reducible (apply Blk.drew)))
          replace ho : Blk x8.drew (w.heap.size + 4) 58 #[.int .i64 v0, .int .i64 ((u : Int) % 1000), .int .i64 0] := (by repeat (first | with_reducible exact ho | with_reducible (apply Blk.set_) | with_reducible (apply Blk.far; case hp => (simp <;> omega)) | with_reducible (apply Blk.alloc) | with_reducible (apply Blk.drew)))
          replace hB : Below w.heap.size w x8.drew := Below.drew (by have hs_ := hB.size; repeat (first | with_reducible exact hB | with_reducible (refine Below.setCell ?_ (by simp <;> omega) _) | with_reducible (refine Below.alloc ?_ (by first | exact hs_ | (simp <;> omega)) _) | with_reducible (refine Below.drew ?_)))
          generalize x8.drew = x9 at *
          have X_ho_0 : ∀ W, Ext x9 W → W.cell? ⟨(w.heap.size + 4), 0, none⟩ = some (.int .i64 v0) := fun W h_ => ((ho.below h_ ho.lt).cell 0).trans rfl
          have X_ho_1 : ∀ W, Ext x9 W → W.cell? ⟨(w.heap.size + 4), 1, none⟩ = some (.int .i64 ((u : Int) % 1000)) := fun W h_ => ((ho.below h_ ho.lt).cell 1).trans rfl
          have X_ho_2 : ∀ W, Ext x9 W → W.cell? ⟨(w.heap.size + 4), 2, none⟩ = some (.int .i64 0) := fun W h_ => ((ho.below h_ ho.lt).cell 2).trans rfl
          refine ext_take (i := 0) (oi := ?oit1utge0) (v := ?vt1utge0) ?hit1utge0 (by kernel_rfl) (by kernel_rfl) (by kernel_rfl) hQ ?hwt1utge0 ?hyt1utge0 ?restt1utge0
          case hit1utge0 => simp only [List.getElem?_toArray, List.getElem?_cons_zero]; rfl
          case hwt1utge0 => rfl
          case hyt1utge0 => intro W hW; go_simp; with_reducible rfl
          simp only [Act.put, List.setIfInBounds_toArray, List.set_cons_zero, List.set_cons_succ]
          refine ext_take (i := 1) (oi := ?oit1utge1) (v := ?vt1utge1) ?hit1utge1 (by kernel_rfl) (by kernel_rfl) (by kernel_rfl) hQ ?hwt1utge1 ?hyt1utge1 ?restt1utge1
          case hit1utge1 => simp only [List.getElem?_toArray, List.getElem?_cons_zero, List.getElem?_cons_succ]; rfl
          case hwt1utge1 => rfl
          case hyt1utge1 => intro W hW; go_simp; with_reducible rfl
          simp only [Act.put, List.setIfInBounds_toArray, List.set_cons_zero, List.set_cons_succ]
          refine ext_skip (i := 2) (oi := ?oit1utge2) ?hit1utge2 (by kernel_rfl) (by kernel_rfl) (by kernel_rfl) hQ ?hwt1utge2 ?restt1utge2
          case hit1utge2 => simp only [List.getElem?_toArray, List.getElem?_cons_zero, List.getElem?_cons_succ]; rfl
          case hwt1utge2 => rfl
          simp only [Act.put, List.setIfInBounds_toArray, List.set_cons_zero, List.set_cons_succ]
          refine ext_skip (i := 3) (oi := ?oit1utge3) ?hit1utge3 (by kernel_rfl) (by kernel_rfl) (by kernel_rfl) hQ ?hwt1utge3 ?restt1utge3
          case hit1utge3 => simp only [List.getElem?_toArray, List.getElem?_cons_zero, List.getElem?_cons_succ]; rfl
          case hwt1utge3 => rfl
          simp only [Act.put, List.setIfInBounds_toArray, List.set_cons_zero, List.set_cons_succ]
          refine ext_skip (i := 4) (oi := ?oit1utge4) ?hit1utge4 (by kernel_rfl) (by kernel_rfl) (by kernel_rfl) hQ ?hwt1utge4 ?restt1utge4
          case hit1utge4 => simp only [List.getElem?_toArray, List.getElem?_cons_zero, List.getElem?_cons_succ]; rfl
          case hwt1utge4 => rfl
          simp only [Act.put, List.setIfInBounds_toArray, List.set_cons_zero, List.set_cons_succ]
          refine ext_skip (i := 5) (oi := ?oit1utge5) ?hit1utge5 (by kernel_rfl) (by kernel_rfl) (by kernel_rfl) hQ ?hwt1utge5 ?restt1utge5
          case hit1utge5 => simp only [List.getElem?_toArray, List.getElem?_cons_zero, List.getElem?_cons_succ]; rfl
          case hwt1utge5 => rfl
          simp only [Act.put, List.setIfInBounds_toArray, List.set_cons_zero, List.set_cons_succ]
          refine ext_skip (i := 6) (oi := ?oit1utge6) ?hit1utge6 (by kernel_rfl) (by kernel_rfl) (by kernel_rfl) hQ ?hwt1utge6 ?restt1utge6
          case hit1utge6 => simp only [List.getElem?_toArray, List.getElem?_cons_zero, List.getElem?_cons_succ]; rfl
          case hwt1utge6 => rfl
          simp only [Act.put, List.setIfInBounds_toArray, List.set_cons_zero, List.set_cons_succ]
          refine ext_skip (i := 7) (oi := ?oit1utge7) ?hit1utge7 (by kernel_rfl) (by kernel_rfl) (by kernel_rfl) hQ ?hwt1utge7 ?restt1utge7
          case hit1utge7 => simp only [List.getElem?_toArray, List.getElem?_cons_zero, List.getElem?_cons_succ]; rfl
          case hwt1utge7 => rfl
          simp only [Act.put, List.setIfInBounds_toArray, List.set_cons_zero, List.set_cons_succ]
          refine ext_skip (i := 8) (oi := ?oit1utge8) ?hit1utge8 (by kernel_rfl) (by kernel_rfl) (by kernel_rfl) hQ ?hwt1utge8 ?restt1utge8
          case hit1utge8 => simp only [List.getElem?_toArray, List.getElem?_cons_zero, List.getElem?_cons_succ]; rfl
          case hwt1utge8 => rfl
          simp only [Act.put, List.setIfInBounds_toArray, List.set_cons_zero, List.set_cons_succ]
          refine ext_take (i := 9) (oi := ?oit1utge9) (v := ?vt1utge9) ?hit1utge9 (by kernel_rfl) (by kernel_rfl) (by kernel_rfl) hQ ?hwt1utge9 ?hyt1utge9 ?restt1utge9
          case hit1utge9 => simp only [List.getElem?_toArray, List.getElem?_cons_zero, List.getElem?_cons_succ]; rfl
          case hwt1utge9 => rfl
          case hyt1utge9 => intro W hW; go_simp; with_reducible rfl
          simp only [Act.put, List.setIfInBounds_toArray, List.set_cons_zero, List.set_cons_succ]
          refine ext_take (i := 10) (oi := ?oit1utge10) (v := ?vt1utge10) ?hit1utge10 (by kernel_rfl) (by kernel_rfl) (by kernel_rfl) hQ ?hwt1utge10 ?hyt1utge10 ?restt1utge10
          case hit1utge10 => simp only [List.getElem?_toArray, List.getElem?_cons_zero, List.getElem?_cons_succ]; rfl
          case hwt1utge10 => rfl
          case hyt1utge10 => intro W hW; go_simp; with_reducible rfl
          simp only [Act.put, List.setIfInBounds_toArray, List.set_cons_zero, List.set_cons_succ]
          refine wpAnyH_done (by kernel_rfl) ?_ _
          simp only [NoP]
          clear X_ho_0 X_ho_1 X_ho_2
          go_wp2_with fail
          go_roundw
          case rel => exact ⟨2, p + s, (v0), ((u : Int) % 1000), (0), (false), by omega, rfl, by go_num, by omega, by omega, fun _ => ⟨rfl, (by have h := HOK.out; rw [hdv, hfin] at h; exact h)⟩, by omega, (by repeat (first | with_reducible exact h2 | with_reducible (apply Blk.set_) | with_reducible (apply Blk.far; case hp => (simp <;> omega)) | with_reducible (apply Blk.alloc) | with_reducible (apply Blk.drew))), (by repeat (first | with_reducible exact h3 | with_reducible (apply Blk.set_) | with_reducible (apply Blk.far; case hp => (simp <;> omega)) | with_reducible (apply Blk.alloc) | with_reducible (apply Blk.drew))), (by repeat (first | with_reducible exact hn | with_reducible (apply Blk.set_) | with_reducible (apply Blk.far; case hp => (simp <;> omega)) | with_reducible (apply Blk.alloc) | with_reducible (apply Blk.drew))), (by repeat (first | with_reducible exact ho | with_reducible (apply Blk.set_) | with_reducible (apply Blk.far; case hp => (simp <;> omega)) | with_reducible (apply Blk.alloc) | with_reducible (apply Blk.drew))), (by have hs_ := hB.size; repeat (first | with_reducible exact hB | with_reducible (refine Below.setCell ?_ (by simp <;> omega) _) | with_reducible (refine Below.alloc ?_ (by first | exact hs_ | (simp <;> omega)) _) | with_reducible (refine Below.drew ?_)))⟩
          case measure => simp [intOf]
    · obtain ⟨rfl, hR⟩ := h2_ rfl
      clear h0_ h1_ h2_ h3_
      have HRS := Lib.hid hR
      have hpn2 : p ≤ n := by rw [← HL.out]; exact hR.1
      clear hR
      by_cases h45 : k2.toNat = 45
      · have HK := Lib.hid h45
        have d45 : ((((⟨#[k0, k1, k2]⟩ : ByteArray)[2]'(by show 2 < 3; decide)).toNat : Int) == 45) = true := by show ((k2.toNat : Int) == 45) = true; simp; omega
        have z901 : wr.cell? ⟨(w.heap.size + 3), 0, none⟩ = some (.slice (some ad) n c) := (hn.cell 0).trans rfl
        have z902 := hn.frozen 0
        have z903 : wr.cell? ⟨(w.heap.size + 3), 1, none⟩ = some (.int .i64 (p : Int)) := (hn.cell 1).trans rfl
        have z904 := hn.frozen 1
        have z905 : wr.cell? ⟨(w.heap.size + 4), 0, none⟩ = some (.int .i64 v0) := (ho.cell 0).trans rfl
        have z906 := ho.frozen 0
        have z907 : wr.cell? ⟨(w.heap.size + 4), 1, none⟩ = some (.int .i64 v1) := (ho.cell 1).trans rfl
        have z908 := ho.frozen 1
        have z909 : wr.cell? ⟨(w.heap.size + 4), 2, none⟩ = some (.int .i64 0) := (ho.cell 2).trans rfl
        have z910 := ho.frozen 2
        have z911 := h2.lt
        have z912 := h3.lt
        have z913 := hn.lt
        have z914 := ho.lt
        go_wp2_with fail
        go_roundw
        case rel => exact ⟨3, p, (v0), (v1), (0), f, by omega, rfl, by go_num, by omega, by omega, by omega, fun _ => RS.no HRS.out rfl HK.out, (by repeat (first | with_reducible exact h2 | with_reducible (apply Blk.set_) | with_reducible (apply Blk.far; case hp => (simp <;> omega)) | with_reducible (apply Blk.alloc) | with_reducible (apply Blk.drew))), (by repeat (first | with_reducible exact h3 | with_reducible (apply Blk.set_) | with_reducible (apply Blk.far; case hp => (simp <;> omega)) | with_reducible (apply Blk.alloc) | with_reducible (apply Blk.drew))), (by repeat (first | with_reducible exact hn | with_reducible (apply Blk.set_) | with_reducible (apply Blk.far; case hp => (simp <;> omega)) | with_reducible (apply Blk.alloc) | with_reducible (apply Blk.drew))), (by repeat (first | with_reducible exact ho | with_reducible (apply Blk.set_) | with_reducible (apply Blk.far; case hp => (simp <;> omega)) | with_reducible (apply Blk.alloc) | with_reducible (apply Blk.drew))), (by have hs_ := hB.size; repeat (first | with_reducible exact hB | with_reducible (refine Below.setCell ?_ (by simp <;> omega) _) | with_reducible (refine Below.alloc ?_ (by first | exact hs_ | (simp <;> omega)) _) | with_reducible (refine Below.drew ?_)))⟩
        case measure => simp [intOf]
      have HK := Lib.hid h45
      have d45 : ((((⟨#[k0, k1, k2]⟩ : ByteArray)[2]'(by show 2 < 3; decide)).toNat : Int) == 45) = false := by show ((k2.toNat : Int) == 45) = false; simp; omega
      clear h45
      have HU := fun W h => read_any (some ad) n c l p W h (by omega) hpn2
      by_cases he : (uvR l (p : Int)).1 = 0
      rotate_left
      · obtain ⟨er, her⟩ : ∃ er, (uvR l (p : Int)).1 = er := ⟨_, rfl⟩
        have hE := RS.bad HRS.out rfl HK.out he
        have e0 : rdE l (p : Int) = er := by unfold rdE; exact her
        have hne : er ≠ 0 := by rw [← her]; exact he
        rw [show rdC (some ad) n c l (p : Int) = cur none 0 0 0 from by unfold rdC; rw [if_neg (by rw [e0]; exact hne)], show rdN l (p : Int) = 0 from by unfold rdN; rw [if_neg (by rw [e0]; exact hne)], e0] at HU
        have HN0 := Lib.hid hne
        have HE := Lib.hid (show rrE l a = er from by rw [HF2.out, if_pos (by rw [hE]; exact he), hE, her])
        have dr : (er != 0) = true := by rw [bne_iff_ne]; exact hne
        unfold cur at HU
        clear hE her e0 he hne
        have z901 : wr.cell? ⟨(w.heap.size + 3), 0, none⟩ = some (.slice (some ad) n c) := (hn.cell 0).trans rfl
        have z902 := hn.frozen 0
        have z903 : wr.cell? ⟨(w.heap.size + 3), 1, none⟩ = some (.int .i64 (p : Int)) := (hn.cell 1).trans rfl
        have z904 := hn.frozen 1
        have z905 : wr.cell? ⟨(w.heap.size + 4), 0, none⟩ = some (.int .i64 v0) := (ho.cell 0).trans rfl
        have z906 := ho.frozen 0
        have z907 : wr.cell? ⟨(w.heap.size + 4), 1, none⟩ = some (.int .i64 v1) := (ho.cell 1).trans rfl
        have z908 := ho.frozen 1
        have z909 : wr.cell? ⟨(w.heap.size + 4), 2, none⟩ = some (.int .i64 0) := (ho.cell 2).trans rfl
        have z910 := ho.frozen 2
        have z911 := h2.lt
        have z912 := h3.lt
        have z913 := hn.lt
        have z914 := ho.lt
        go_wp2_with fail
        refine (HU _ (HR.out.mv (by have hs_ := hB.size; repeat (first | with_reducible exact hB | with_reducible (refine Below.setCell ?_ (by simp <;> omega) _) | with_reducible (refine Below.alloc ?_ (by first | exact hs_ | (simp <;> omega)) _) | with_reducible (refine Below.drew ?_))))).mono ?_
        rintro e x1 ⟨rfl, bB⟩
        replace h2 := Blk.via0 (g := (w.heap.size + 1)) (t := 39) bB (by repeat (first | with_reducible exact h2 | with_reducible (apply Blk.set_) | with_reducible (apply Blk.far; case hp => (simp <;> omega)) | with_reducible (apply Blk.alloc) | with_reducible (apply Blk.drew)))
        replace h2 : Blk x1 (w.heap.size + 1) 39 #[.slice none 0 0, .int .i64 0] := h2
        replace h3 := Blk.via0 (g := (w.heap.size + 2)) (t := 23) bB (by repeat (first | with_reducible exact h3 | with_reducible (apply Blk.set_) | with_reducible (apply Blk.far; case hp => (simp <;> omega)) | with_reducible (apply Blk.alloc) | with_reducible (apply Blk.drew)))
        replace h3 : Blk x1 (w.heap.size + 2) 23 #[.int .u8 0, .int .i64 0, .int .i64 0, .int .i64 0] := h3
        replace hn := Blk.via0 (g := (w.heap.size + 3)) (t := 39) bB (by repeat (first | with_reducible exact hn | with_reducible (apply Blk.set_) | with_reducible (apply Blk.far; case hp => (simp <;> omega)) | with_reducible (apply Blk.alloc) | with_reducible (apply Blk.drew)))
        replace hn : Blk x1 (w.heap.size + 3) 39 #[.slice (some ad) n c, .int .i64 (p : Int)] := hn
        replace ho := Blk.via0 (g := (w.heap.size + 4)) (t := 58) bB (by repeat (first | with_reducible exact ho | with_reducible (apply Blk.set_) | with_reducible (apply Blk.far; case hp => (simp <;> omega)) | with_reducible (apply Blk.alloc) | with_reducible (apply Blk.drew)))
        replace ho : Blk x1 (w.heap.size + 4) 58 #[.int .i64 v0, .int .i64 v1, .int .i64 0] := ho
        replace hB := Below.via (w := w) (by have hs_ := hB.size; repeat (first | with_reducible exact hB | with_reducible (refine Below.setCell ?_ (by simp <;> omega) _) | with_reducible (refine Below.alloc ?_ (by first | exact hs_ | (simp <;> omega)) _) | with_reducible (refine Below.drew ?_))) bB
        clear z901 z902 z903 z904 z905 z906 z907 z908 z909 z910 z911 z912 z913 z914
        clear bB
        clear HU
        have z915 : x1.cell? ⟨(w.heap.size + 1), 0, none⟩ = some (.slice none 0 0) := (h2.cell 0).trans rfl
        have z916 := h2.frozen 0
        have z917 : x1.cell? ⟨(w.heap.size + 1), 1, none⟩ = some (.int .i64 0) := (h2.cell 1).trans rfl
        have z918 := h2.frozen 1
        have z919 : x1.cell? ⟨(w.heap.size + 2), 0, none⟩ = some (.int .u8 0) := (h3.cell 0).trans rfl
        have z920 := h3.frozen 0
        have z921 : x1.cell? ⟨(w.heap.size + 2), 1, none⟩ = some (.int .i64 0) := (h3.cell 1).trans rfl
        have z922 := h3.frozen 1
        have z923 : x1.cell? ⟨(w.heap.size + 2), 2, none⟩ = some (.int .i64 0) := (h3.cell 2).trans rfl
        have z924 := h3.frozen 2
        have z925 : x1.cell? ⟨(w.heap.size + 2), 3, none⟩ = some (.int .i64 0) := (h3.cell 3).trans rfl
        have z926 := h3.frozen 3
        have z927 := h2.lt
        have z928 := h3.lt
        have z929 := hn.lt
        have z930 := ho.lt
        go_wp2_with fail
        refine ret_cc1 rfl curT insT rfl (by repeat (first | with_reducible exact h2 | with_reducible (apply Blk.set_) | with_reducible (apply Blk.far; case hp => (simp <;> omega)) | with_reducible (apply Blk.alloc) | with_reducible (apply Blk.drew))) (by rfl) rfl (by repeat (first | with_reducible exact h3 | with_reducible (apply Blk.set_) | with_reducible (apply Blk.far; case hp => (simp <;> omega)) | with_reducible (apply Blk.alloc) | with_reducible (apply Blk.drew))) (by rfl) ?_
        exact ⟨.inr ⟨by rw [HE.out]; exact HN0.out, by rw [HE.out]; rfl⟩, (by have hs_ := hB.size; repeat (first | with_reducible exact hB | with_reducible (refine Below.setCell ?_ (by simp <;> omega) _) | with_reducible (refine Below.alloc ?_ (by first | exact hs_ | (simp <;> omega)) _) | with_reducible (refine Below.drew ?_)))⟩
      obtain ⟨hy1, hy2, hy3, _⟩ := uvR_le he
      rw [show ((p : Int)).toNat = p from by simp] at hy3
      obtain ⟨s, hs⟩ : ∃ s, (uvR l (p : Int)).2.2 = s := ⟨_, rfl⟩
      have hqs : p + s ≤ n := by rw [← HL.out, ← hs]; exact hy3
      obtain ⟨u, hu_⟩ : ∃ u, (uvR l (p : Int)).2.1 = u := ⟨_, rfl⟩
      have hub : u < 18446744073709551616 := by rw [← hu_]; exact hy1
      have e0 : rdE l (p : Int) = 0 := he
      rw [show rdC (some ad) n c l (p : Int) = cur (some ad) n c (((p + s : Nat)) : Int) from by unfold rdC; rw [if_pos e0, hs]; rfl, show rdN l (p : Int) = u from by unfold rdN; rw [if_pos e0, hu_], e0] at HU
      unfold cur at HU
      have HOK := Lib.hid (show RS l [k0, k1, k2] (a + 1) 3 (p + s) ([v0, v1] ++ [rdv l k2 p]) (f && rdg l k2 p) from by have h := RS.ok HRS.out rfl HK.out he; rw [hs] at h; exact h)
      have HDV := Lib.hid (show rdv l k2 p = if sgR (k2.toNat : Int) then hlf u else ((u % 1000 : Nat) : Int) from by unfold rdv; rw [hu_])
      have HDG := Lib.hid (show rdg l k2 p = ((sgR (k2.toNat : Int) || decide (u < 1000)) && ftR (k2.toNat : Int) (rdv l k2 p)) from by unfold rdg; rw [hu_])
      clear e0 he hy1 hy2 hy3 hs hu_ HRS
      have z901 : wr.cell? ⟨(w.heap.size + 3), 0, none⟩ = some (.slice (some ad) n c) := (hn.cell 0).trans rfl
      have z902 := hn.frozen 0
      have z903 : wr.cell? ⟨(w.heap.size + 3), 1, none⟩ = some (.int .i64 (p : Int)) := (hn.cell 1).trans rfl
      have z904 := hn.frozen 1
      have z905 : wr.cell? ⟨(w.heap.size + 4), 0, none⟩ = some (.int .i64 v0) := (ho.cell 0).trans rfl
      have z906 := ho.frozen 0
      have z907 : wr.cell? ⟨(w.heap.size + 4), 1, none⟩ = some (.int .i64 v1) := (ho.cell 1).trans rfl
      have z908 := ho.frozen 1
      have z909 : wr.cell? ⟨(w.heap.size + 4), 2, none⟩ = some (.int .i64 0) := (ho.cell 2).trans rfl
      have z910 := ho.frozen 2
      have z911 := h2.lt
      have z912 := h3.lt
      have z913 := hn.lt
      have z914 := ho.lt
      go_wp2_with fail
      refine (HU _ (HR.out.mv (by have hs_ := hB.size; repeat (first | with_reducible exact hB | with_reducible (refine Below.setCell ?_ (by simp <;> omega) _) | with_reducible (refine Below.alloc ?_ (by first | exact hs_ | (simp <;> omega)) _) | with_reducible (refine Below.drew ?_))))).mono ?_
      rintro e x1 ⟨rfl, bB⟩
      replace h2 := Blk.via0 (g := (w.heap.size + 1)) (t := 39) bB (by repeat (first | with_reducible exact h2 | with_reducible (apply Blk.set_) | with_reducible (apply Blk.far; case hp => (simp <;> omega)) | with_reducible (apply Blk.alloc) | with_reducible (apply Blk.drew)))
      replace h2 : Blk x1 (w.heap.size + 1) 39 #[.slice none 0 0, .int .i64 0] := h2
      replace h3 := Blk.via0 (g := (w.heap.size + 2)) (t := 23) bB (by repeat (first | with_reducible exact h3 | with_reducible (apply Blk.set_) | with_reducible (apply Blk.far; case hp => (simp <;> omega)) | with_reducible (apply Blk.alloc) | with_reducible (apply Blk.drew)))
      replace h3 : Blk x1 (w.heap.size + 2) 23 #[.int .u8 0, .int .i64 0, .int .i64 0, .int .i64 0] := h3
      replace hn := Blk.via0 (g := (w.heap.size + 3)) (t := 39) bB (by repeat (first | with_reducible exact hn | with_reducible (apply Blk.set_) | with_reducible (apply Blk.far; case hp => (simp <;> omega)) | with_reducible (apply Blk.alloc) | with_reducible (apply Blk.drew)))
      replace hn : Blk x1 (w.heap.size + 3) 39 #[.slice (some ad) n c, .int .i64 (p : Int)] := hn
      replace ho := Blk.via0 (g := (w.heap.size + 4)) (t := 58) bB (by repeat (first | with_reducible exact ho | with_reducible (apply Blk.set_) | with_reducible (apply Blk.far; case hp => (simp <;> omega)) | with_reducible (apply Blk.alloc) | with_reducible (apply Blk.drew)))
      replace ho : Blk x1 (w.heap.size + 4) 58 #[.int .i64 v0, .int .i64 v1, .int .i64 0] := ho
      replace hB := Below.via (w := w) (by have hs_ := hB.size; repeat (first | with_reducible exact hB | with_reducible (refine Below.setCell ?_ (by simp <;> omega) _) | with_reducible (refine Below.alloc ?_ (by first | exact hs_ | (simp <;> omega)) _) | with_reducible (refine Below.drew ?_))) bB
      clear z901 z902 z903 z904 z905 z906 z907 z908 z909 z910 z911 z912 z913 z914
      clear bB
      clear HU
      have hnx := Blk.new x1 39 #[.slice (some ad) n c, .int .i64 ((p + s : Nat) : Int)]
      obtain ⟨z1_, z2_, z3_, z4_⟩ := hnx.cf2
      have z915 : x1.cell? ⟨(w.heap.size + 3), 0, none⟩ = some (.slice (some ad) n c) := (hn.cell 0).trans rfl
      have z916 := hn.frozen 0
      have z917 : ∀ ob_, (x1.alloc ob_).cell? ⟨(w.heap.size + 3), 0, none⟩ = some (.slice (some ad) n c) := fun ob_ => ((Blk.alloc hn ob_).cell 0).trans rfl
      have z918 : ∀ ob_, (x1.alloc ob_).frozen? ⟨(w.heap.size + 3), 0, none⟩ = false := fun ob_ => (Blk.alloc hn ob_).frozen 0
      have z919 : x1.cell? ⟨(w.heap.size + 3), 1, none⟩ = some (.int .i64 (p : Int)) := (hn.cell 1).trans rfl
      have z920 := hn.frozen 1
      have z921 : ∀ ob_, (x1.alloc ob_).cell? ⟨(w.heap.size + 3), 1, none⟩ = some (.int .i64 (p : Int)) := fun ob_ => ((Blk.alloc hn ob_).cell 1).trans rfl
      have z922 : ∀ ob_, (x1.alloc ob_).frozen? ⟨(w.heap.size + 3), 1, none⟩ = false := fun ob_ => (Blk.alloc hn ob_).frozen 1
      have z923 : x1.cell? ⟨(w.heap.size + 4), 0, none⟩ = some (.int .i64 v0) := (ho.cell 0).trans rfl
      have z924 := ho.frozen 0
      have z925 : ∀ ob_, (x1.alloc ob_).cell? ⟨(w.heap.size + 4), 0, none⟩ = some (.int .i64 v0) := fun ob_ => ((Blk.alloc ho ob_).cell 0).trans rfl
      have z926 : ∀ ob_, (x1.alloc ob_).frozen? ⟨(w.heap.size + 4), 0, none⟩ = false := fun ob_ => (Blk.alloc ho ob_).frozen 0
      have z927 : x1.cell? ⟨(w.heap.size + 4), 1, none⟩ = some (.int .i64 v1) := (ho.cell 1).trans rfl
      have z928 := ho.frozen 1
      have z929 : ∀ ob_, (x1.alloc ob_).cell? ⟨(w.heap.size + 4), 1, none⟩ = some (.int .i64 v1) := fun ob_ => ((Blk.alloc ho ob_).cell 1).trans rfl
      have z930 : ∀ ob_, (x1.alloc ob_).frozen? ⟨(w.heap.size + 4), 1, none⟩ = false := fun ob_ => (Blk.alloc ho ob_).frozen 1
      have z931 : x1.cell? ⟨(w.heap.size + 4), 2, none⟩ = some (.int .i64 0) := (ho.cell 2).trans rfl
      have z932 := ho.frozen 2
      have z933 : ∀ ob_, (x1.alloc ob_).cell? ⟨(w.heap.size + 4), 2, none⟩ = some (.int .i64 0) := fun ob_ => ((Blk.alloc ho ob_).cell 2).trans rfl
      have z934 : ∀ ob_, (x1.alloc ob_).frozen? ⟨(w.heap.size + 4), 2, none⟩ = false := fun ob_ => (Blk.alloc ho ob_).frozen 2
      have z935 := h2.lt
      have z936 := h3.lt
      have z937 := hn.lt
      have z938 := ho.lt
      go_wp2_with fail
      clear hnx z1_ z2_ z3_ z4_
      refine (sgR_b k2 _).mono ?_
      rintro e x2 ⟨rfl, bB⟩
      replace h2 := Blk.via0 (g := (w.heap.size + 1)) (t := 39) bB (by repeat (first | with_reducible exact h2 | with_reducible (apply Blk.set_) | with_reducible (apply Blk.far; case hp => (simp <;> omega)) | with_reducible (apply Blk.alloc) | with_reducible (apply Blk.drew)))
      replace h2 : Blk x2 (w.heap.size + 1) 39 #[.slice none 0 0, .int .i64 0] := h2
      replace h3 := Blk.via0 (g := (w.heap.size + 2)) (t := 23) bB (by repeat (first | with_reducible exact h3 | with_reducible (apply Blk.set_) | with_reducible (apply Blk.far; case hp => (simp <;> omega)) | with_reducible (apply Blk.alloc) | with_reducible (apply Blk.drew)))
      replace h3 : Blk x2 (w.heap.size + 2) 23 #[.int .u8 0, .int .i64 0, .int .i64 0, .int .i64 0] := h3
      replace hn := Blk.via0 (g := (w.heap.size + 3)) (t := 39) bB (by repeat (first | with_reducible exact hn | with_reducible (apply Blk.set_) | with_reducible (apply Blk.far; case hp => (simp <;> omega)) | with_reducible (apply Blk.alloc) | with_reducible (apply Blk.drew)))
      replace hn : Blk x2 (w.heap.size + 3) 39 #[.slice (some ad) n c, .int .i64 ((p + s : Nat) : Int)] := hn
      replace ho := Blk.via0 (g := (w.heap.size + 4)) (t := 58) bB (by repeat (first | with_reducible exact ho | with_reducible (apply Blk.set_) | with_reducible (apply Blk.far; case hp => (simp <;> omega)) | with_reducible (apply Blk.alloc) | with_reducible (apply Blk.drew)))
      replace ho : Blk x2 (w.heap.size + 4) 58 #[.int .i64 v0, .int .i64 v1, .int .i64 0] := ho
      replace hB := Below.via (w := w) (by have hs_ := hB.size; repeat (first | with_reducible exact hB | with_reducible (refine Below.setCell ?_ (by simp <;> omega) _) | with_reducible (refine Below.alloc ?_ (by first | exact hs_ | (simp <;> omega)) _) | with_reducible (refine Below.drew ?_))) bB
      clear z915 z916 z917 z918 z919 z920 z921 z922 z923 z924 z925 z926 z927 z928 z929 z930 z931 z932 z933 z934 z935 z936 z937 z938
      clear bB
      by_cases hsg : sgR (k2.toNat : Int) = true
      · rw [hsg]
        have hdv : rdv l k2 p = hlf u := by rw [HDV.out, hsg]; rfl
        have hrg := hlf_rng hub
        have z939 : x2.cell? ⟨(w.heap.size + 4), 0, none⟩ = some (.int .i64 v0) := (ho.cell 0).trans rfl
        have z940 := ho.frozen 0
        have z941 : x2.cell? ⟨(w.heap.size + 4), 1, none⟩ = some (.int .i64 v1) := (ho.cell 1).trans rfl
        have z942 := ho.frozen 1
        have z943 : x2.cell? ⟨(w.heap.size + 4), 2, none⟩ = some (.int .i64 0) := (ho.cell 2).trans rfl
        have z944 := ho.frozen 2
        have z945 := h2.lt
        have z946 := h3.lt
        have z947 := hn.lt
        have z948 := ho.lt
        go_wp2_with fail
        refine (half_b u hub _).mono ?_
        rintro e x3 ⟨rfl, bB⟩
        replace h2 := Blk.via0 (g := (w.heap.size + 1)) (t := 39) bB (by repeat (first | with_reducible exact h2 | with_reducible (apply Blk.set_) | with_reducible (apply Blk.far; case hp => (simp <;> omega)) | with_reducible (apply Blk.alloc) | with_reducible (apply Blk.drew)))
        replace h2 : Blk x3 (w.heap.size + 1) 39 #[.slice none 0 0, .int .i64 0] := h2
        replace h3 := Blk.via0 (g := (w.heap.size + 2)) (t := 23) bB (by repeat (first | with_reducible exact h3 | with_reducible (apply Blk.set_) | with_reducible (apply Blk.far; case hp => (simp <;> omega)) | with_reducible (apply Blk.alloc) | with_reducible (apply Blk.drew)))
        replace h3 : Blk x3 (w.heap.size + 2) 23 #[.int .u8 0, .int .i64 0, .int .i64 0, .int .i64 0] := h3
        replace hn := Blk.via0 (g := (w.heap.size + 3)) (t := 39) bB (by repeat (first | with_reducible exact hn | with_reducible (apply Blk.set_) | with_reducible (apply Blk.far; case hp => (simp <;> omega)) | with_reducible (apply Blk.alloc) | with_reducible (apply Blk.drew)))
        replace hn : Blk x3 (w.heap.size + 3) 39 #[.slice (some ad) n c, .int .i64 ((p + s : Nat) : Int)] := hn
        replace ho := Blk.via0 (g := (w.heap.size + 4)) (t := 58) bB (by repeat (first | with_reducible exact ho | with_reducible (apply Blk.set_) | with_reducible (apply Blk.far; case hp => (simp <;> omega)) | with_reducible (apply Blk.alloc) | with_reducible (apply Blk.drew)))
        replace ho : Blk x3 (w.heap.size + 4) 58 #[.int .i64 v0, .int .i64 v1, .int .i64 0] := ho
        replace hB := Below.via (w := w) (by have hs_ := hB.size; repeat (first | with_reducible exact hB | with_reducible (refine Below.setCell ?_ (by simp <;> omega) _) | with_reducible (refine Below.alloc ?_ (by first | exact hs_ | (simp <;> omega)) _) | with_reducible (refine Below.drew ?_))) bB
        clear z939 z940 z941 z942 z943 z944 z945 z946 z947 z948
        clear bB
        cases f
        · have hfin : (false && rdg l k2 p) = false := by rw [HDG.out, hsg, hdv]; rfl
          have z949 : x3.cell? ⟨(w.heap.size + 4), 0, none⟩ = some (.int .i64 v0) := (ho.cell 0).trans rfl
          have z950 := ho.frozen 0
          have z951 : x3.cell? ⟨(w.heap.size + 4), 1, none⟩ = some (.int .i64 v1) := (ho.cell 1).trans rfl
          have z952 := ho.frozen 1
          have z953 : x3.cell? ⟨(w.heap.size + 4), 2, none⟩ = some (.int .i64 0) := (ho.cell 2).trans rfl
          have z954 := ho.frozen 2
          have z955 := h2.lt
          have z956 := h3.lt
          have z957 := hn.lt
          have z958 := ho.lt
          go_wp2_with fail
          clear z949 z950 z951 z952 z953 z954 z955 z956 z957 z958
          replace ho : Blk (x3.setCell ⟨w.heap.size + 4, 2, none⟩ (.int .i64 (hlf u))) (w.heap.size + 4) 58 #[.int .i64 v0, .int .i64 v1, .int .i64 (hlf u)] := ho.set_ 2 (.int .i64 (hlf u))
          replace h2 := h2.far (p := ⟨w.heap.size + 4, 2, none⟩) (by simp <;> omega) (.int .i64 (hlf u))
          replace h3 := h3.far (p := ⟨w.heap.size + 4, 2, none⟩) (by simp <;> omega) (.int .i64 (hlf u))
          replace hn := hn.far (p := ⟨w.heap.size + 4, 2, none⟩) (by simp <;> omega) (.int .i64 (hlf u))
          replace hB := hB.setCell (p := ⟨w.heap.size + 4, 2, none⟩) (by simp <;> omega) (.int .i64 (hlf u))
          generalize (x3.setCell ⟨w.heap.size + 4, 2, none⟩ (.int .i64 (hlf u))) = x8 at *
          refine nop_wp (ext_start (by kernel_rfl) calm_nop (fun hQ => ?_))
          replace h2 : Blk x8.drew (w.heap.size + 1) 39 #[.slice none 0 0, .int .i64 0] := (by repeat (first | with_reducible exact h2 | with_reducible (apply Blk.set_) | with_reducible (apply Blk.far; case hp => (simp <;> omega)) | with_reducible (apply Blk.alloc) | with_reducible (apply Blk.drew)))
          replace h3 : Blk x8.drew (w.heap.size + 2) 23 #[.int .u8 0, .int .i64 0, .int .i64 0, .int .i64 0] := (by repeat (first | with_reducible exact h3 | with_reducible (apply Blk.set_) | with_reducible (apply Blk.far; case hp => (simp <;> omega)) | with_reducible (apply Blk.alloc) | with_reducible (apply Blk.drew)))
          replace hn : Blk x8.drew (w.heap.size + 3) 39 #[.slice (some ad) n c, .int .i64 ((p + s : Nat) : Int)] := (by repeat (first | with_reducible exact hn | with_reducible (apply Blk.set_) | with_reducible (apply Blk.far; case hp => (simp <;> omega)) | with_reducible (apply Blk.alloc) | with_reducible (apply Blk.drew)))
          replace ho : Blk x8.drew (w.heap.size + 4) 58 #[.int .i64 v0, .int .i64 v1, .int .i64 (hlf u)] := (by repeat (first | with_reducible exact ho | with_reducible (apply Blk.set_) | with_reducible (apply Blk.far; case hp => (simp <;> omega)) | with_reducible (apply Blk.alloc) | with_reducible (apply Blk.drew)))
          replace hB : Below w.heap.size w x8.drew := Below.drew (by have hs_ := hB.size; repeat (first | with_reducible exact hB | with_reducible (refine Below.setCell ?_ (by simp <;> omega) _) | with_reducible (refine Below.alloc ?_ (by first | exact hs_ | (simp <;> omega)) _) | with_reducible (refine Below.drew ?_)))
          generalize x8.drew = x9 at *
          have X_ho_0 : ∀ W, Ext x9 W → W.cell? ⟨(w.heap.size + 4), 0, none⟩ = some (.int .i64 v0) := fun W h_ => ((ho.below h_ ho.lt).cell 0).trans rfl
          have X_ho_1 : ∀ W, Ext x9 W → W.cell? ⟨(w.heap.size + 4), 1, none⟩ = some (.int .i64 v1) := fun W h_ => ((ho.below h_ ho.lt).cell 1).trans rfl
          have X_ho_2 : ∀ W, Ext x9 W → W.cell? ⟨(w.heap.size + 4), 2, none⟩ = some (.int .i64 (hlf u)) := fun W h_ => ((ho.below h_ ho.lt).cell 2).trans rfl
          refine ext_take (i := 0) (oi := ?oit2sf0) (v := ?vt2sf0) ?hit2sf0 (by kernel_rfl) (by kernel_rfl) (by kernel_rfl) hQ ?hwt2sf0 ?hyt2sf0 ?restt2sf0
          case hit2sf0 => simp only [List.getElem?_toArray, List.getElem?_cons_zero]; rfl
          case hwt2sf0 => rfl
          case hyt2sf0 => intro W hW; go_simp; with_reducible rfl
          simp only [Act.put, List.setIfInBounds_toArray, List.set_cons_zero, List.set_cons_succ]
          refine ext_take (i := 1) (oi := ?oit2sf1) (v := ?vt2sf1) ?hit2sf1 (by kernel_rfl) (by kernel_rfl) (by kernel_rfl) hQ ?hwt2sf1 ?hyt2sf1 ?restt2sf1
          case hit2sf1 => simp only [List.getElem?_toArray, List.getElem?_cons_zero, List.getElem?_cons_succ]; rfl
          case hwt2sf1 => rfl
          case hyt2sf1 => intro W hW; go_simp; with_reducible rfl
          simp only [Act.put, List.setIfInBounds_toArray, List.set_cons_zero, List.set_cons_succ]
          refine ext_skip (i := 2) (oi := ?oit2sf2) ?hit2sf2 (by kernel_rfl) (by kernel_rfl) (by kernel_rfl) hQ ?hwt2sf2 ?restt2sf2
          case hit2sf2 => simp only [List.getElem?_toArray, List.getElem?_cons_zero, List.getElem?_cons_succ]; rfl
          case hwt2sf2 => rfl
          simp only [Act.put, List.setIfInBounds_toArray, List.set_cons_zero, List.set_cons_succ]
          refine ext_skip (i := 3) (oi := ?oit2sf3) ?hit2sf3 (by kernel_rfl) (by kernel_rfl) (by kernel_rfl) hQ ?hwt2sf3 ?restt2sf3
          case hit2sf3 => simp only [List.getElem?_toArray, List.getElem?_cons_zero, List.getElem?_cons_succ]; rfl
          case hwt2sf3 => rfl
          simp only [Act.put, List.setIfInBounds_toArray, List.set_cons_zero, List.set_cons_succ]
          refine ext_skip (i := 4) (oi := ?oit2sf4) ?hit2sf4 (by kernel_rfl) (by kernel_rfl) (by kernel_rfl) hQ ?hwt2sf4 ?restt2sf4
          case hit2sf4 => simp only [List.getElem?_toArray, List.getElem?_cons_zero, List.getElem?_cons_succ]; rfl
          case hwt2sf4 => rfl
          simp only [Act.put, List.setIfInBounds_toArray, List.set_cons_zero, List.set_cons_succ]
          refine ext_skip (i := 5) (oi := ?oit2sf5) ?hit2sf5 (by kernel_rfl) (by kernel_rfl) (by kernel_rfl) hQ ?hwt2sf5 ?restt2sf5
          case hit2sf5 => simp only [List.getElem?_toArray, List.getElem?_cons_zero, List.getElem?_cons_succ]; rfl
          case hwt2sf5 => rfl
          simp only [Act.put, List.setIfInBounds_toArray, List.set_cons_zero, List.set_cons_succ]
          refine ext_skip (i := 6) (oi := ?oit2sf6) ?hit2sf6 (by kernel_rfl) (by kernel_rfl) (by kernel_rfl) hQ ?hwt2sf6 ?restt2sf6
          case hit2sf6 => simp only [List.getElem?_toArray, List.getElem?_cons_zero, List.getElem?_cons_succ]; rfl
          case hwt2sf6 => rfl
          simp only [Act.put, List.setIfInBounds_toArray, List.set_cons_zero, List.set_cons_succ]
          refine ext_skip (i := 7) (oi := ?oit2sf7) ?hit2sf7 (by kernel_rfl) (by kernel_rfl) (by kernel_rfl) hQ ?hwt2sf7 ?restt2sf7
          case hit2sf7 => simp only [List.getElem?_toArray, List.getElem?_cons_zero, List.getElem?_cons_succ]; rfl
          case hwt2sf7 => rfl
          simp only [Act.put, List.setIfInBounds_toArray, List.set_cons_zero, List.set_cons_succ]
          refine ext_skip (i := 8) (oi := ?oit2sf8) ?hit2sf8 (by kernel_rfl) (by kernel_rfl) (by kernel_rfl) hQ ?hwt2sf8 ?restt2sf8
          case hit2sf8 => simp only [List.getElem?_toArray, List.getElem?_cons_zero, List.getElem?_cons_succ]; rfl
          case hwt2sf8 => rfl
          simp only [Act.put, List.setIfInBounds_toArray, List.set_cons_zero, List.set_cons_succ]
          refine ext_take (i := 9) (oi := ?oit2sf9) (v := ?vt2sf9) ?hit2sf9 (by kernel_rfl) (by kernel_rfl) (by kernel_rfl) hQ ?hwt2sf9 ?hyt2sf9 ?restt2sf9
          case hit2sf9 => simp only [List.getElem?_toArray, List.getElem?_cons_zero, List.getElem?_cons_succ]; rfl
          case hwt2sf9 => rfl
          case hyt2sf9 => intro W hW; go_simp; with_reducible rfl
          simp only [Act.put, List.setIfInBounds_toArray, List.set_cons_zero, List.set_cons_succ]
          refine ext_take (i := 10) (oi := ?oit2sf10) (v := ?vt2sf10) ?hit2sf10 (by kernel_rfl) (by kernel_rfl) (by kernel_rfl) hQ ?hwt2sf10 ?hyt2sf10 ?restt2sf10
          case hit2sf10 => simp only [List.getElem?_toArray, List.getElem?_cons_zero, List.getElem?_cons_succ]; rfl
          case hwt2sf10 => rfl
          case hyt2sf10 => intro W hW; go_simp; with_reducible rfl
          simp only [Act.put, List.setIfInBounds_toArray, List.set_cons_zero, List.set_cons_succ]
          refine wpAnyH_done (by kernel_rfl) ?_ _
          simp only [NoP]
          clear X_ho_0 X_ho_1 X_ho_2
          go_wp2_with fail
          go_roundw
          case rel => exact ⟨3, p + s, (v0), (v1), (hlf u), (false), by omega, rfl, by go_num, by omega, by omega, by omega, fun _ => (by have h := HOK.out; rw [hdv, hfin] at h; exact h), (by repeat (first | with_reducible exact h2 | with_reducible (apply Blk.set_) | with_reducible (apply Blk.far; case hp => (simp <;> omega)) | with_reducible (apply Blk.alloc) | with_reducible (apply Blk.drew))), (by repeat (first | with_reducible exact h3 | with_reducible (apply Blk.set_) | with_reducible (apply Blk.far; case hp => (simp <;> omega)) | with_reducible (apply Blk.alloc) | with_reducible (apply Blk.drew))), (by repeat (first | with_reducible exact hn | with_reducible (apply Blk.set_) | with_reducible (apply Blk.far; case hp => (simp <;> omega)) | with_reducible (apply Blk.alloc) | with_reducible (apply Blk.drew))), (by repeat (first | with_reducible exact ho | with_reducible (apply Blk.set_) | with_reducible (apply Blk.far; case hp => (simp <;> omega)) | with_reducible (apply Blk.alloc) | with_reducible (apply Blk.drew))), (by have hs_ := hB.size; repeat (first | with_reducible exact hB | with_reducible (refine Below.setCell ?_ (by simp <;> omega) _) | with_reducible (refine Below.alloc ?_ (by first | exact hs_ | (simp <;> omega)) _) | with_reducible (refine Below.drew ?_)))⟩
          case measure => simp [intOf]
        · have hfin : (true && rdg l k2 p) = ftR (k2.toNat : Int) (hlf u) := by rw [HDG.out, hsg, hdv]; simp
          have z949 : x3.cell? ⟨(w.heap.size + 4), 0, none⟩ = some (.int .i64 v0) := (ho.cell 0).trans rfl
          have z950 := ho.frozen 0
          have z951 : x3.cell? ⟨(w.heap.size + 4), 1, none⟩ = some (.int .i64 v1) := (ho.cell 1).trans rfl
          have z952 := ho.frozen 1
          have z953 : x3.cell? ⟨(w.heap.size + 4), 2, none⟩ = some (.int .i64 0) := (ho.cell 2).trans rfl
          have z954 := ho.frozen 2
          have z955 := h2.lt
          have z956 := h3.lt
          have z957 := hn.lt
          have z958 := ho.lt
          go_wp2_with fail
          clear z949 z950 z951 z952 z953 z954 z955 z956 z957 z958
          replace ho : Blk (x3.setCell ⟨w.heap.size + 4, 2, none⟩ (.int .i64 (hlf u))) (w.heap.size + 4) 58 #[.int .i64 v0, .int .i64 v1, .int .i64 (hlf u)] := ho.set_ 2 (.int .i64 (hlf u))
          replace h2 := h2.far (p := ⟨w.heap.size + 4, 2, none⟩) (by simp <;> omega) (.int .i64 (hlf u))
          replace h3 := h3.far (p := ⟨w.heap.size + 4, 2, none⟩) (by simp <;> omega) (.int .i64 (hlf u))
          replace hn := hn.far (p := ⟨w.heap.size + 4, 2, none⟩) (by simp <;> omega) (.int .i64 (hlf u))
          replace hB := hB.setCell (p := ⟨w.heap.size + 4, 2, none⟩) (by simp <;> omega) (.int .i64 (hlf u))
          generalize (x3.setCell ⟨w.heap.size + 4, 2, none⟩ (.int .i64 (hlf u))) = x8 at *
          refine nop_wp (ext_start (by kernel_rfl) calm_nop (fun hQ => ?_))
          replace h2 : Blk x8.drew (w.heap.size + 1) 39 #[.slice none 0 0, .int .i64 0] := (by repeat (first | with_reducible exact h2 | with_reducible (apply Blk.set_) | with_reducible (apply Blk.far; case hp => (simp <;> omega)) | with_reducible (apply Blk.alloc) | with_reducible (apply Blk.drew)))
          replace h3 : Blk x8.drew (w.heap.size + 2) 23 #[.int .u8 0, .int .i64 0, .int .i64 0, .int .i64 0] := (by repeat (first | with_reducible exact h3 | with_reducible (apply Blk.set_) | with_reducible (apply Blk.far; case hp => (simp <;> omega)) | with_reducible (apply Blk.alloc) | with_reducible (apply Blk.drew)))
          replace hn : Blk x8.drew (w.heap.size + 3) 39 #[.slice (some ad) n c, .int .i64 ((p + s : Nat) : Int)] := (by repeat (first | with_reducible exact hn | with_reducible (apply Blk.set_) | with_reducible (apply Blk.far; case hp => (simp <;> omega)) | with_reducible (apply Blk.alloc) | with_reducible (apply Blk.drew)))
          replace ho : Blk x8.drew (w.heap.size + 4) 58 #[.int .i64 v0, .int .i64 v1, .int .i64 (hlf u)] := (by repeat (first | with_reducible exact ho | with_reducible (apply Blk.set_) | with_reducible (apply Blk.far; case hp => (simp <;> omega)) | with_reducible (apply Blk.alloc) | with_reducible (apply Blk.drew)))
          replace hB : Below w.heap.size w x8.drew := Below.drew (by have hs_ := hB.size; repeat (first | with_reducible exact hB | with_reducible (refine Below.setCell ?_ (by simp <;> omega) _) | with_reducible (refine Below.alloc ?_ (by first | exact hs_ | (simp <;> omega)) _) | with_reducible (refine Below.drew ?_)))
          generalize x8.drew = x9 at *
          have X_ho_0 : ∀ W, Ext x9 W → W.cell? ⟨(w.heap.size + 4), 0, none⟩ = some (.int .i64 v0) := fun W h_ => ((ho.below h_ ho.lt).cell 0).trans rfl
          have X_ho_1 : ∀ W, Ext x9 W → W.cell? ⟨(w.heap.size + 4), 1, none⟩ = some (.int .i64 v1) := fun W h_ => ((ho.below h_ ho.lt).cell 1).trans rfl
          have X_ho_2 : ∀ W, Ext x9 W → W.cell? ⟨(w.heap.size + 4), 2, none⟩ = some (.int .i64 (hlf u)) := fun W h_ => ((ho.below h_ ho.lt).cell 2).trans rfl
          refine ext_take (i := 0) (oi := ?oit2st0) (v := ?vt2st0) ?hit2st0 (by kernel_rfl) (by kernel_rfl) (by kernel_rfl) hQ ?hwt2st0 ?hyt2st0 ?restt2st0
          case hit2st0 => simp only [List.getElem?_toArray, List.getElem?_cons_zero]; rfl
          case hwt2st0 => rfl
          case hyt2st0 => intro W hW; go_simp; with_reducible rfl
          simp only [Act.put, List.setIfInBounds_toArray, List.set_cons_zero, List.set_cons_succ]
          refine ext_take (i := 1) (oi := ?oit2st1) (v := ?vt2st1) ?hit2st1 (by kernel_rfl) (by kernel_rfl) (by kernel_rfl) hQ ?hwt2st1 ?hyt2st1 ?restt2st1
          case hit2st1 => simp only [List.getElem?_toArray, List.getElem?_cons_zero, List.getElem?_cons_succ]; rfl
          case hwt2st1 => rfl
          case hyt2st1 => intro W hW; go_simp; with_reducible rfl
          simp only [Act.put, List.setIfInBounds_toArray, List.set_cons_zero, List.set_cons_succ]
          refine ext_take (i := 2) (oi := ?oit2st2) (v := ?vt2st2) ?hit2st2 (by kernel_rfl) (by kernel_rfl) (by kernel_rfl) hQ ?hwt2st2 ?hyt2st2 ?restt2st2
          case hit2st2 => simp only [List.getElem?_toArray, List.getElem?_cons_zero, List.getElem?_cons_succ]; rfl
          case hwt2st2 => rfl
          case hyt2st2 => intro W hW; go_simp; with_reducible rfl
          simp only [Act.put, List.setIfInBounds_toArray, List.set_cons_zero, List.set_cons_succ]
          refine ext_take (i := 3) (oi := ?oit2st3) (v := ?vt2st3) ?hit2st3 (by kernel_rfl) (by kernel_rfl) (by kernel_rfl) hQ ?hwt2st3 ?hyt2st3 ?restt2st3
          case hit2st3 => simp only [List.getElem?_toArray, List.getElem?_cons_zero, List.getElem?_cons_succ]; rfl
          case hwt2st3 => rfl
          case hyt2st3 => intro W hW; go_simp; with_reducible rfl
          simp only [Act.put, List.setIfInBounds_toArray, List.set_cons_zero, List.set_cons_succ]
          refine ext_take (i := 4) (oi := ?oit2st4) (v := ?vt2st4) ?hit2st4 (by kernel_rfl) (by kernel_rfl) (by kernel_rfl) hQ ?hwt2st4 ?hyt2st4 ?restt2st4
          case hit2st4 => simp only [List.getElem?_toArray, List.getElem?_cons_zero, List.getElem?_cons_succ]; rfl
          case hwt2st4 => rfl
          case hyt2st4 => intro W hW; go_simp; with_reducible rfl
          simp only [Act.put, List.setIfInBounds_toArray, List.set_cons_zero, List.set_cons_succ]
          refine ext_take (i := 5) (oi := ?oit2st5) (v := ?vt2st5) ?hit2st5 (by kernel_rfl) (by kernel_rfl) (by kernel_rfl) hQ ?hwt2st5 ?hyt2st5 ?restt2st5
          case hit2st5 => simp only [List.getElem?_toArray, List.getElem?_cons_zero, List.getElem?_cons_succ]; rfl
          case hwt2st5 => rfl
          case hyt2st5 => intro W hW; go_simp; with_reducible rfl
          simp only [Act.put, List.setIfInBounds_toArray, List.set_cons_zero, List.set_cons_succ]
          refine ext_take (i := 6) (oi := ?oit2st6) (v := ?vt2st6) ?hit2st6 (by kernel_rfl) (by kernel_rfl) (by kernel_rfl) hQ ?hwt2st6 ?hyt2st6 ?restt2st6
          case hit2st6 => simp only [List.getElem?_toArray, List.getElem?_cons_zero, List.getElem?_cons_succ]; rfl
          case hwt2st6 => rfl
          case hyt2st6 => intro W hW; go_simp; with_reducible rfl
          simp only [Act.put, List.setIfInBounds_toArray, List.set_cons_zero, List.set_cons_succ]
          refine ext_take (i := 7) (oi := ?oit2st7) (v := ?vt2st7) ?hit2st7 (by kernel_rfl) (by kernel_rfl) (by kernel_rfl) hQ ?hwt2st7 ?hyt2st7 ?restt2st7
          case hit2st7 => simp only [List.getElem?_toArray, List.getElem?_cons_zero, List.getElem?_cons_succ]; rfl
          case hwt2st7 => rfl
          case hyt2st7 => intro W hW; go_simp; with_reducible rfl
          simp only [Act.put, List.setIfInBounds_toArray, List.set_cons_zero, List.set_cons_succ]
          refine ext_step (i := 8) (oi := ?oit2st8) (by kernel_rfl) ?hit2st8 ?hwt2st8 (fun K hK => ?_)
          case hit2st8 => simp only [List.getElem?_toArray, List.getElem?_cons_zero, List.getElem?_cons_succ]; rfl
          case hwt2st8 => rfl
          go_simp
          refine (ftR_b k2 (hlf u) hrg _).mono ?_; rintro e wq ⟨rfl, rfl⟩; refine hK _ _ (Ext.refl _) ?_
          try simp only [Act.put, List.setIfInBounds_toArray, List.set_cons_zero, List.set_cons_succ]
          refine ext_take (i := 9) (oi := ?oit2st9) (v := ?vt2st9) ?hit2st9 (by kernel_rfl) (by kernel_rfl) (by kernel_rfl) hQ ?hwt2st9 ?hyt2st9 ?restt2st9
          case hit2st9 => simp only [List.getElem?_toArray, List.getElem?_cons_zero, List.getElem?_cons_succ]; rfl
          case hwt2st9 => rfl
          case hyt2st9 => intro W hW; go_simp; with_reducible rfl
          simp only [Act.put, List.setIfInBounds_toArray, List.set_cons_zero, List.set_cons_succ]
          refine ext_take (i := 10) (oi := ?oit2st10) (v := ?vt2st10) ?hit2st10 (by kernel_rfl) (by kernel_rfl) (by kernel_rfl) hQ ?hwt2st10 ?hyt2st10 ?restt2st10
          case hit2st10 => simp only [List.getElem?_toArray, List.getElem?_cons_zero, List.getElem?_cons_succ]; rfl
          case hwt2st10 => rfl
          case hyt2st10 => intro W hW; go_simp; with_reducible rfl
          simp only [Act.put, List.setIfInBounds_toArray, List.set_cons_zero, List.set_cons_succ]
          refine wpAnyH_done (by kernel_rfl) ?_ _
          simp only [NoP]
          clear X_ho_0 X_ho_1 X_ho_2
          go_wp2_with fail
          go_roundw
          case rel => exact ⟨3, p + s, (v0), (v1), (hlf u), (ftR (k2.toNat : Int) (hlf u)), by omega, rfl, by go_num, by omega, by omega, by omega, fun _ => (by have h := HOK.out; rw [hdv, hfin] at h; exact h), (by repeat (first | with_reducible exact h2 | with_reducible (apply Blk.set_) | with_reducible (apply Blk.far; case hp => (simp <;> omega)) | with_reducible (apply Blk.alloc) | with_reducible (apply Blk.drew))), (by repeat (first | with_reducible exact h3 | with_reducible (apply Blk.set_) | with_reducible (apply Blk.far; case hp => (simp <;> omega)) | with_reducible (apply Blk.alloc) | with_reducible (apply Blk.drew))), (by repeat (first | with_reducible exact hn | with_reducible (apply Blk.set_) | with_reducible (apply Blk.far; case hp => (simp <;> omega)) | with_reducible (apply Blk.alloc) | with_reducible (apply Blk.drew))), (by repeat (first | with_reducible exact ho | with_reducible (apply Blk.set_) | with_reducible (apply Blk.far; case hp => (simp <;> omega)) | with_reducible (apply Blk.alloc) | with_reducible (apply Blk.drew))), (by have hs_ := hB.size; repeat (first | with_reducible exact hB | with_reducible (refine Below.setCell ?_ (by simp <;> omega) _) | with_reducible (refine Below.alloc ?_ (by first | exact hs_ | (simp <;> omega)) _) | with_reducible (refine Below.drew ?_)))⟩
          case measure => simp [intOf]
      · replace hsg : sgR (k2.toNat : Int) = false := by simpa using hsg
        rw [hsg]
        have hdv : rdv l k2 p = (u : Int) % 1000 := by rw [HDV.out, hsg]; rfl
        have hrg : -9223372036854775808 ≤ (u : Int) % 1000 ∧ (u : Int) % 1000 ≤ 9223372036854775807 := by omega
        cases f
        · have hfin : (false && rdg l k2 p) = false := rfl
          have z939 : x2.cell? ⟨(w.heap.size + 4), 0, none⟩ = some (.int .i64 v0) := (ho.cell 0).trans rfl
          have z940 := ho.frozen 0
          have z941 : x2.cell? ⟨(w.heap.size + 4), 1, none⟩ = some (.int .i64 v1) := (ho.cell 1).trans rfl
          have z942 := ho.frozen 1
          have z943 : x2.cell? ⟨(w.heap.size + 4), 2, none⟩ = some (.int .i64 0) := (ho.cell 2).trans rfl
          have z944 := ho.frozen 2
          have z945 := h2.lt
          have z946 := h3.lt
          have z947 := hn.lt
          have z948 := ho.lt
          go_wp2_with fail
          clear z939 z940 z941 z942 z943 z944 z945 z946 z947 z948
          replace ho : Blk (x2.setCell ⟨w.heap.size + 4, 2, none⟩ (.int .i64 ((u : Int) % 1000))) (w.heap.size + 4) 58 #[.int .i64 v0, .int .i64 v1, .int .i64 ((u : Int) % 1000)] := ho.set_ 2 (.int .i64 ((u : Int) % 1000))
          replace h2 := h2.far (p := ⟨w.heap.size + 4, 2, none⟩) (by simp <;> omega) (.int .i64 ((u : Int) % 1000))
          replace h3 := h3.far (p := ⟨w.heap.size + 4, 2, none⟩) (by simp <;> omega) (.int .i64 ((u : Int) % 1000))
          replace hn := hn.far (p := ⟨w.heap.size + 4, 2, none⟩) (by simp <;> omega) (.int .i64 ((u : Int) % 1000))
          replace hB := hB.setCell (p := ⟨w.heap.size + 4, 2, none⟩) (by simp <;> omega) (.int .i64 ((u : Int) % 1000))
          generalize (x2.setCell ⟨w.heap.size + 4, 2, none⟩ (.int .i64 ((u : Int) % 1000))) = x8 at *
          refine nop_wp (ext_start (by kernel_rfl) calm_nop (fun hQ => ?_))
          replace h2 : Blk x8.drew (w.heap.size + 1) 39 #[.slice none 0 0, .int .i64 0] := (by repeat (first | with_reducible exact h2 | with_reducible (apply Blk.set_) | with_reducible (apply Blk.far; case hp => (simp <;> omega)) | with_reducible (apply Blk.alloc) | with_reducible (apply Blk.drew)))
          replace h3 : Blk x8.drew (w.heap.size + 2) 23 #[.int .u8 0, .int .i64 0, .int .i64 0, .int .i64 0] := (by repeat (first | with_reducible exact h3 | with_reducible (apply Blk.set_) | with_reducible (apply Blk.far; case hp => (simp <;> omega)) | with_reducible (apply Blk.alloc) | with_reducible (apply Blk.drew)))
          replace hn : Blk x8.drew (w.heap.size + 3) 39 #[.slice (some ad) n c, .int .i64 ((p + s : Nat) : Int)] := (by repeat (first | with_reducible exact hn | with_reducible (apply Blk.set_) | with_reducible (apply Blk.far; case hp => (simp <;> omega)) | with_reducible (apply Blk.alloc) | with_reducible (apply Blk.drew)))
          replace ho : Blk x8.drew (w.heap.size + 4) 58 #[.int .i64 v0, .int .i64 v1, .int .i64 ((u : Int) % 1000)] := (by repeat (first | with_reducible exact ho | with_reducible (apply Blk.set_) | with_reducible (apply Blk.far; case hp => (simp <;> omega)) | with_reducible (apply Blk.alloc) | with_reducible (apply Blk.drew)))
          replace hB : Below w.heap.size w x8.drew := Below.drew (by have hs_ := hB.size; repeat (first | with_reducible exact hB | with_reducible (refine Below.setCell ?_ (by simp <;> omega) _) | with_reducible (refine Below.alloc ?_ (by first | exact hs_ | (simp <;> omega)) _) | with_reducible (refine Below.drew ?_)))
          generalize x8.drew = x9 at *
          have X_ho_0 : ∀ W, Ext x9 W → W.cell? ⟨(w.heap.size + 4), 0, none⟩ = some (.int .i64 v0) := fun W h_ => ((ho.below h_ ho.lt).cell 0).trans rfl
          have X_ho_1 : ∀ W, Ext x9 W → W.cell? ⟨(w.heap.size + 4), 1, none⟩ = some (.int .i64 v1) := fun W h_ => ((ho.below h_ ho.lt).cell 1).trans rfl
          have X_ho_2 : ∀ W, Ext x9 W → W.cell? ⟨(w.heap.size + 4), 2, none⟩ = some (.int .i64 ((u : Int) % 1000)) := fun W h_ => ((ho.below h_ ho.lt).cell 2).trans rfl
          refine ext_take (i := 0) (oi := ?oit2uf0) (v := ?vt2uf0) ?hit2uf0 (by kernel_rfl) (by kernel_rfl) (by kernel_rfl) hQ ?hwt2uf0 ?hyt2uf0 ?restt2uf0
          case hit2uf0 => simp only [List.getElem?_toArray, List.getElem?_cons_zero]; rfl
          case hwt2uf0 => rfl
          case hyt2uf0 => intro W hW; go_simp; with_reducible rfl
          simp only [Act.put, List.setIfInBounds_toArray, List.set_cons_zero, List.set_cons_succ]
          refine ext_take (i := 1) (oi := ?oit2uf1) (v := ?vt2uf1) ?hit2uf1 (by kernel_rfl) (by kernel_rfl) (by kernel_rfl) hQ ?hwt2uf1 ?hyt2uf1 ?restt2uf1
          case hit2uf1 => simp only [List.getElem?_toArray, List.getElem?_cons_zero, List.getElem?_cons_succ]; rfl
          case hwt2uf1 => rfl
          case hyt2uf1 => intro W hW; go_simp; with_reducible rfl
          simp only [Act.put, List.setIfInBounds_toArray, List.set_cons_zero, List.set_cons_succ]
          refine ext_skip (i := 2) (oi := ?oit2uf2) ?hit2uf2 (by kernel_rfl) (by kernel_rfl) (by kernel_rfl) hQ ?hwt2uf2 ?restt2uf2
          case hit2uf2 => simp only [List.getElem?_toArray, List.getElem?_cons_zero, List.getElem?_cons_succ]; rfl
          case hwt2uf2 => rfl
          simp only [Act.put, List.setIfInBounds_toArray, List.set_cons_zero, List.set_cons_succ]
          refine ext_skip (i := 3) (oi := ?oit2uf3) ?hit2uf3 (by kernel_rfl) (by kernel_rfl) (by kernel_rfl) hQ ?hwt2uf3 ?restt2uf3
          case hit2uf3 => simp only [List.getElem?_toArray, List.getElem?_cons_zero, List.getElem?_cons_succ]; rfl
          case hwt2uf3 => rfl
          simp only [Act.put, List.setIfInBounds_toArray, List.set_cons_zero, List.set_cons_succ]
          refine ext_skip (i := 4) (oi := ?oit2uf4) ?hit2uf4 (by kernel_rfl) (by kernel_rfl) (by kernel_rfl) hQ ?hwt2uf4 ?restt2uf4
          case hit2uf4 => simp only [List.getElem?_toArray, List.getElem?_cons_zero, List.getElem?_cons_succ]; rfl
          case hwt2uf4 => rfl
          simp only [Act.put, List.setIfInBounds_toArray, List.set_cons_zero, List.set_cons_succ]
          refine ext_skip (i := 5) (oi := ?oit2uf5) ?hit2uf5 (by kernel_rfl) (by kernel_rfl) (by kernel_rfl) hQ ?hwt2uf5 ?restt2uf5
          case hit2uf5 => simp only [List.getElem?_toArray, List.getElem?_cons_zero, List.getElem?_cons_succ]; rfl
          case hwt2uf5 => rfl
          simp only [Act.put, List.setIfInBounds_toArray, List.set_cons_zero, List.set_cons_succ]
          refine ext_skip (i := 6) (oi := ?oit2uf6) ?hit2uf6 (by kernel_rfl) (by kernel_rfl) (by kernel_rfl) hQ ?hwt2uf6 ?restt2uf6
          case hit2uf6 => simp only [List.getElem?_toArray, List.getElem?_cons_zero, List.getElem?_cons_succ]; rfl
          case hwt2uf6 => rfl
          simp only [Act.put, List.setIfInBounds_toArray, List.set_cons_zero, List.set_cons_succ]
          refine ext_skip (i := 7) (oi := ?oit2uf7) ?hit2uf7 (by kernel_rfl) (by kernel_rfl) (by kernel_rfl) hQ ?hwt2uf7 ?restt2uf7
          case hit2uf7 => simp only [List.getElem?_toArray, List.getElem?_cons_zero, List.getElem?_cons_succ]; rfl
          case hwt2uf7 => rfl
          simp only [Act.put, List.setIfInBounds_toArray, List.set_cons_zero, List.set_cons_succ]
          refine ext_skip (i := 8) (oi := ?oit2uf8) ?hit2uf8 (by kernel_rfl) (by kernel_rfl) (by kernel_rfl) hQ ?hwt2uf8 ?restt2uf8
          case hit2uf8 => simp only [List.getElem?_toArray, List.getElem?_cons_zero, List.getElem?_cons_succ]; rfl
          case hwt2uf8 => rfl
          simp only [Act.put, List.setIfInBounds_toArray, List.set_cons_zero, List.set_cons_succ]
          refine ext_take (i := 9) (oi := ?oit2uf9) (v := ?vt2uf9) ?hit2uf9 (by kernel_rfl) (by kernel_rfl) (by kernel_rfl) hQ ?hwt2uf9 ?hyt2uf9 ?restt2uf9
          case hit2uf9 => simp only [List.getElem?_toArray, List.getElem?_cons_zero, List.getElem?_cons_succ]; rfl
          case hwt2uf9 => rfl
          case hyt2uf9 => intro W hW; go_simp; with_reducible rfl
          simp only [Act.put, List.setIfInBounds_toArray, List.set_cons_zero, List.set_cons_succ]
          refine ext_take (i := 10) (oi := ?oit2uf10) (v := ?vt2uf10) ?hit2uf10 (by kernel_rfl) (by kernel_rfl) (by kernel_rfl) hQ ?hwt2uf10 ?hyt2uf10 ?restt2uf10
          case hit2uf10 => simp only [List.getElem?_toArray, List.getElem?_cons_zero, List.getElem?_cons_succ]; rfl
          case hwt2uf10 => rfl
          case hyt2uf10 => intro W hW; go_simp; with_reducible rfl
          simp only [Act.put, List.setIfInBounds_toArray, List.set_cons_zero, List.set_cons_succ]
          refine wpAnyH_done (by kernel_rfl) ?_ _
          simp only [NoP]
          clear X_ho_0 X_ho_1 X_ho_2
          go_wp2_with fail
          go_roundw
          case rel => exact ⟨3, p + s, (v0), (v1), ((u : Int) % 1000), (false), by omega, rfl, by go_num, by omega, by omega, by omega, fun _ => (by have h := HOK.out; rw [hdv, hfin] at h; exact h), (by repeat (first | with_reducible exact h2 | with_reducible (apply Blk.set_) | with_reducible (apply Blk.far; case hp => (simp <;> omega)) | with_reducible (apply Blk.alloc) | with_reducible (apply Blk.drew))), (by repeat (first | with_reducible exact h3 | with_reducible (apply Blk.set_) | with_reducible (apply Blk.far; case hp => (simp <;> omega)) | with_reducible (apply Blk.alloc) | with_reducible (apply Blk.drew))), (by repeat (first | with_reducible exact hn | with_reducible (apply Blk.set_) | with_reducible (apply Blk.far; case hp => (simp <;> omega)) | with_reducible (apply Blk.alloc) | with_reducible (apply Blk.drew))), (by repeat (first | with_reducible exact ho | with_reducible (apply Blk.set_) | with_reducible (apply Blk.far; case hp => (simp <;> omega)) | with_reducible (apply Blk.alloc) | with_reducible (apply Blk.drew))), (by have hs_ := hB.size; repeat (first | with_reducible exact hB | with_reducible (refine Below.setCell ?_ (by simp <;> omega) _) | with_reducible (refine Below.alloc ?_ (by first | exact hs_ | (simp <;> omega)) _) | with_reducible (refine Below.drew ?_)))⟩
          case measure => simp [intOf]
        by_cases huc : u < 1000
        · have d1 : decide ((u : Int) < 1000) = true := by simp; omega
          have hfin : (true && rdg l k2 p) = ftR (k2.toNat : Int) ((u : Int) % 1000) := by rw [HDG.out, hsg, hdv]; simp [huc]
          have z939 : x2.cell? ⟨(w.heap.size + 4), 0, none⟩ = some (.int .i64 v0) := (ho.cell 0).trans rfl
          have z940 := ho.frozen 0
          have z941 : x2.cell? ⟨(w.heap.size + 4), 1, none⟩ = some (.int .i64 v1) := (ho.cell 1).trans rfl
          have z942 := ho.frozen 1
          have z943 : x2.cell? ⟨(w.heap.size + 4), 2, none⟩ = some (.int .i64 0) := (ho.cell 2).trans rfl
          have z944 := ho.frozen 2
          have z945 := h2.lt
          have z946 := h3.lt
          have z947 := hn.lt
          have z948 := ho.lt
          go_wp2_with fail
          clear z939 z940 z941 z942 z943 z944 z945 z946 z947 z948
          replace ho : Blk (x2.setCell ⟨w.heap.size + 4, 2, none⟩ (.int .i64 ((u : Int) % 1000))) (w.heap.size + 4) 58 #[.int .i64 v0, .int .i64 v1, .int .i64 ((u : Int) % 1000)] := ho.set_ 2 (.int .i64 ((u : Int) % 1000))
          replace h2 := h2.far (p := ⟨w.heap.size + 4, 2, none⟩) (by simp <;> omega) (.int .i64 ((u : Int) % 1000))
          replace h3 := h3.far (p := ⟨w.heap.size + 4, 2, none⟩) (by simp <;> omega) (.int .i64 ((u : Int) % 1000))
          replace hn := hn.far (p := ⟨w.heap.size + 4, 2, none⟩) (by simp <;> omega) (.int .i64 ((u : Int) % 1000))
          replace hB := hB.setCell (p := ⟨w.heap.size + 4, 2, none⟩) (by simp <;> omega) (.int .i64 ((u : Int) % 1000))
          generalize (x2.setCell ⟨w.heap.size + 4, 2, none⟩ (.int .i64 ((u : Int) % 1000))) = x8 at *
          refine nop_wp (ext_start (by kernel_rfl) calm_nop (fun hQ => ?_))
          replace h2 : Blk x8.drew (w.heap.size + 1) 39 #[.slice none 0 0, .int .i64 0] := (by repeat (first | with_reducible exact h2 | with_reducible (apply Blk.set_) | with_reducible (apply Blk.far; case hp => (simp <;> omega)) | with_reducible (apply Blk.alloc) | with_reducible (apply Blk.drew)))
          replace h3 : Blk x8.drew (w.heap.size + 2) 23 #[.int .u8 0, .int .i64 0, .int .i64 0, .int .i64 0] := (by repeat (first | with_reducible exact h3 | with_reducible (apply Blk.set_) | with_reducible (apply Blk.far; case hp => (simp <;> omega)) | with_reducible (apply Blk.alloc) | with_reducible (apply Blk.drew)))
          replace hn : Blk x8.drew (w.heap.size + 3) 39 #[.slice (some ad) n c, .int .i64 ((p + s : Nat) : Int)] := (by repeat (first | with_reducible exact hn | with_reducible (apply Blk.set_) | with_reducible (apply Blk.far; case hp => (simp <;> omega)) | with_reducible (apply Blk.alloc) | with_reducible (apply Blk.drew)))
          replace ho : Blk x8.drew (w.heap.size + 4) 58 #[.int .i64 v0, .int .i64 v1, .int .i64 ((u : Int) % 1000)] := (by repeat (first | with_reducible exact ho | with_reducible (apply Blk.set_) | with_reducible (apply Blk.far; case hp => (simp <;> omega)) | with_reducible (apply Blk.alloc) | with_reducible (apply Blk.drew)))
          replace hB : Below w.heap.size w x8.drew := Below.drew (by have hs_ := hB.size; repeat (first | with_reducible exact hB | with_reducible (refine Below.setCell ?_ (by simp <;> omega) _) | with_reducible (refine Below.alloc ?_ (by first | exact hs_ | (simp <;> omega)) _) | with_reducible (refine Below.drew ?_)))
          generalize x8.drew = x9 at *
          have X_ho_0 : ∀ W, Ext x9 W → W.cell? ⟨(w.heap.size + 4), 0, none⟩ = some (.int .i64 v0) := fun W h_ => ((ho.below h_ ho.lt).cell 0).trans rfl
          have X_ho_1 : ∀ W, Ext x9 W → W.cell? ⟨(w.heap.size + 4), 1, none⟩ = some (.int .i64 v1) := fun W h_ => ((ho.below h_ ho.lt).cell 1).trans rfl
          have X_ho_2 : ∀ W, Ext x9 W → W.cell? ⟨(w.heap.size + 4), 2, none⟩ = some (.int .i64 ((u : Int) % 1000)) := fun W h_ => ((ho.below h_ ho.lt).cell 2).trans rfl
          refine ext_take (i := 0) (oi := ?oit2utlt0) (v := ?vt2utlt0) ?hit2utlt0 (by kernel_rfl) (by kernel_rfl) (by kernel_rfl) hQ ?hwt2utlt0 ?hyt2utlt0 ?restt2utlt0
          case hit2utlt0 => simp only [List.getElem?_toArray, List.getElem?_cons_zero]; rfl
          case hwt2utlt0 => rfl
          case hyt2utlt0 => intro W hW; go_simp; with_reducible rfl
          simp only [Act.put, List.setIfInBounds_toArray, List.set_cons_zero, List.set_cons_succ]
          refine ext_take (i := 1) (oi := ?oit2utlt1) (v := ?vt2utlt1) ?hit2utlt1 (by kernel_rfl) (by kernel_rfl) (by kernel_rfl) hQ ?hwt2utlt1 ?hyt2utlt1 ?restt2utlt1
          case hit2utlt1 => simp only [List.getElem?_toArray, List.getElem?_cons_zero, List.getElem?_cons_succ]; rfl
          case hwt2utlt1 => rfl
          case hyt2utlt1 => intro W hW; go_simp; with_reducible rfl
          simp only [Act.put, List.setIfInBounds_toArray, List.set_cons_zero, List.set_cons_succ]
          refine ext_take (i := 2) (oi := ?oit2utlt2) (v := ?vt2utlt2) ?hit2utlt2 (by kernel_rfl) (by kernel_rfl) (by kernel_rfl) hQ ?hwt2utlt2 ?hyt2utlt2 ?restt2utlt2
          case hit2utlt2 => simp only [List.getElem?_toArray, List.getElem?_cons_zero, List.getElem?_cons_succ]; rfl
          case hwt2utlt2 => rfl
          case hyt2utlt2 => intro W hW; go_simp; with_reducible rfl
          simp only [Act.put, List.setIfInBounds_toArray, List.set_cons_zero, List.set_cons_succ]
          refine ext_take (i := 3) (oi := ?oit2utlt3) (v := ?vt2utlt3) ?hit2utlt3 (by kernel_rfl) (by kernel_rfl) (by kernel_rfl) hQ ?hwt2utlt3 ?hyt2utlt3 ?restt2utlt3
          case hit2utlt3 => simp only [List.getElem?_toArray, List.getElem?_cons_zero, List.getElem?_cons_succ]; rfl
          case hwt2utlt3 => rfl
          case hyt2utlt3 => intro W hW; go_simp; with_reducible rfl
          simp only [Act.put, List.setIfInBounds_toArray, List.set_cons_zero, List.set_cons_succ]
          refine ext_take (i := 4) (oi := ?oit2utlt4) (v := ?vt2utlt4) ?hit2utlt4 (by kernel_rfl) (by kernel_rfl) (by kernel_rfl) hQ ?hwt2utlt4 ?hyt2utlt4 ?restt2utlt4
          case hit2utlt4 => simp only [List.getElem?_toArray, List.getElem?_cons_zero, List.getElem?_cons_succ]; rfl
          case hwt2utlt4 => rfl
          case hyt2utlt4 => intro W hW; go_simp; with_reducible rfl
          simp only [Act.put, List.setIfInBounds_toArray, List.set_cons_zero, List.set_cons_succ]
          refine ext_take (i := 5) (oi := ?oit2utlt5) (v := ?vt2utlt5) ?hit2utlt5 (by kernel_rfl) (by kernel_rfl) (by kernel_rfl) hQ ?hwt2utlt5 ?hyt2utlt5 ?restt2utlt5
          case hit2utlt5 => simp only [List.getElem?_toArray, List.getElem?_cons_zero, List.getElem?_cons_succ]; rfl
          case hwt2utlt5 => rfl
          case hyt2utlt5 => intro W hW; go_simp; with_reducible rfl
          simp only [Act.put, List.setIfInBounds_toArray, List.set_cons_zero, List.set_cons_succ]
          refine ext_take (i := 6) (oi := ?oit2utlt6) (v := ?vt2utlt6) ?hit2utlt6 (by kernel_rfl) (by kernel_rfl) (by kernel_rfl) hQ ?hwt2utlt6 ?hyt2utlt6 ?restt2utlt6
          case hit2utlt6 => simp only [List.getElem?_toArray, List.getElem?_cons_zero, List.getElem?_cons_succ]; rfl
          case hwt2utlt6 => rfl
          case hyt2utlt6 => intro W hW; go_simp; with_reducible rfl
          simp only [Act.put, List.setIfInBounds_toArray, List.set_cons_zero, List.set_cons_succ]
          refine ext_take (i := 7) (oi := ?oit2utlt7) (v := ?vt2utlt7) ?hit2utlt7 (by kernel_rfl) (by kernel_rfl) (by kernel_rfl) hQ ?hwt2utlt7 ?hyt2utlt7 ?restt2utlt7
          case hit2utlt7 => simp only [List.getElem?_toArray, List.getElem?_cons_zero, List.getElem?_cons_succ]; rfl
          case hwt2utlt7 => rfl
          case hyt2utlt7 => intro W hW; go_simp; with_reducible rfl
          simp only [Act.put, List.setIfInBounds_toArray, List.set_cons_zero, List.set_cons_succ]
          refine ext_step (i := 8) (oi := ?oit2utlt8) (by kernel_rfl) ?hit2utlt8 ?hwt2utlt8 (fun K hK => ?_)
          case hit2utlt8 => simp only [List.getElem?_toArray, List.getElem?_cons_zero, List.getElem?_cons_succ]; rfl
          case hwt2utlt8 => rfl
          go_simp
          refine (ftR_b k2 ((u : Int) % 1000) hrg _).mono ?_; rintro e wq ⟨rfl, rfl⟩; refine hK _ _ (Ext.refl _) ?_
          try simp only [Act.put, List.setIfInBounds_toArray, List.set_cons_zero, List.set_cons_succ]
          refine ext_take (i := 9) (oi := ?oit2utlt9) (v := ?vt2utlt9) ?hit2utlt9 (by kernel_rfl) (by kernel_rfl) (by kernel_rfl) hQ ?hwt2utlt9 ?hyt2utlt9 ?restt2utlt9
          case hit2utlt9 => simp only [List.getElem?_toArray, List.getElem?_cons_zero, List.getElem?_cons_succ]; rfl
          case hwt2utlt9 => rfl
          case hyt2utlt9 => intro W hW; go_simp; with_reducible rfl
          simp only [Act.put, List.setIfInBounds_toArray, List.set_cons_zero, List.set_cons_succ]
          refine ext_take (i := 10) (oi := ?oit2utlt10) (v := ?vt2utlt10) ?hit2utlt10 (by kernel_rfl) (by kernel_rfl) (by kernel_rfl) hQ ?hwt2utlt10 ?hyt2utlt10 ?restt2utlt10
          case hit2utlt10 => simp only [List.getElem?_toArray, List.getElem?_cons_zero, List.getElem?_cons_succ]; rfl
          case hwt2utlt10 => rfl
          case hyt2utlt10 => intro W hW; go_simp; with_reducible rfl
          simp only [Act.put, List.setIfInBounds_toArray, List.set_cons_zero, List.set_cons_succ]
          refine wpAnyH_done (by kernel_rfl) ?_ _
          simp only [NoP]
          clear X_ho_0 X_ho_1 X_ho_2
          go_wp2_with fail
          go_roundw
          case rel => exact ⟨3, p + s, (v0), (v1), ((u : Int) % 1000), (ftR (k2.toNat : Int) ((u : Int) % 1000)), by omega, rfl, by go_num, by omega, by omega, by omega, fun _ => (by have h := HOK.out; rw [hdv, hfin] at h; exact h), (by repeat (first | with_reducible exact h2 | with_reducible (apply Blk.set_) | with_reducible (apply Blk.far; case hp => (simp <;> omega)) | with_reducible (apply Blk.alloc) | with_reducible (apply Blk.drew))), (by repeat (first | with_reducible exact h3 | with_reducible (apply Blk.set_) | with_reducible (apply Blk.far; case hp => (simp <;> omega)) | with_reducible (apply Blk.alloc) | with_reducible (apply Blk.drew))), (by repeat (first | with_reducible exact hn | with_reducible (apply Blk.set_) | with_reducible (apply Blk.far; case hp => (simp <;> omega)) | with_reducible (apply Blk.alloc) | with_reducible (apply Blk.drew))), (by repeat (first | with_reducible exact ho | with_reducible (apply Blk.set_) | with_reducible (apply Blk.far; case hp => (simp <;> omega)) | with_reducible (apply Blk.alloc) | with_reducible (apply Blk.drew))), (by have hs_ := hB.size; repeat (first | with_reducible exact hB | with_reducible (refine Below.setCell ?_ (by simp <;> omega) _) | with_reducible (refine Below.alloc ?_ (by first | exact hs_ | (simp <;> omega)) _) | with_reducible (refine Below.drew ?_)))⟩
          case measure => simp [intOf]
        · have d1 : decide ((u : Int) < 1000) = false := by simp; omega
          have hfin : (true && rdg l k2 p) = false := by rw [HDG.out, hsg, hdv]; simp [huc]
          have z939 : x2.cell? ⟨(w.heap.size + 4), 0, none⟩ = some (.int .i64 v0) := (ho.cell 0).trans rfl
          have z940 := ho.frozen 0
          have z941 : x2.cell? ⟨(w.heap.size + 4), 1, none⟩ = some (.int .i64 v1) := (ho.cell 1).trans rfl
          have z942 := ho.frozen 1
          have z943 : x2.cell? ⟨(w.heap.size + 4), 2, none⟩ = some (.int .i64 0) := (ho.cell 2).trans rfl
          have z944 := ho.frozen 2
          have z945 := h2.lt
          have z946 := h3.lt
          have z947 := hn.lt
          have z948 := ho.lt
          go_wp2_with fail
          clear z939 z940 z941 z942 z943 z944 z945 z946 z947 z948
          replace ho : Blk (x2.setCell ⟨w.heap.size + 4, 2, none⟩ (.int .i64 ((u : Int) % 1000))) (w.heap.size + 4) 58 #[.int .i64 v0, .int .i64 v1, .int .i64 ((u : Int) % 1000)] := ho.set_ 2 (.int .i64 ((u : Int) % 1000))
          replace h2 := h2.far (p := ⟨w.heap.size + 4, 2, none⟩) (by simp <;> omega) (.int .i64 ((u : Int) % 1000))
          replace h3 := h3.far (p := ⟨w.heap.size + 4, 2, none⟩) (by simp <;> omega) (.int .i64 ((u : Int) % 1000))
          replace hn := hn.far (p := ⟨w.heap.size + 4, 2, none⟩) (by simp <;> omega) (.int .i64 ((u : Int) % 1000))
          replace hB := hB.setCell (p := ⟨w.heap.size + 4, 2, none⟩) (by simp <;> omega) (.int .i64 ((u : Int) % 1000))
          generalize (x2.setCell ⟨w.heap.size + 4, 2, none⟩ (.int .i64 ((u : Int) % 1000))) = x8 at *
          refine nop_wp (ext_start (by kernel_rfl) calm_nop (fun hQ => ?_))
          replace h2 : Blk x8.drew (w.heap.size + 1) 39 #[.slice none 0 0, .int .i64 0] := (by repeat (first | with_reducible exact h2 | with_reducible (apply Blk.set_) | with_reducible (apply Blk.far; case hp => (simp <;> omega)) | with_reducible (apply Blk.alloc) | with_reducible (apply Blk.drew)))
          replace h3 : Blk x8.drew (w.heap.size + 2) 23 #[.int .u8 0, .int .i64 0, .int .i64 0, .int .i64 0] := (by repeat (first | with_reducible exact h3 | with_reducible (apply Blk.set_) | with_reducible (apply Blk.far; case hp => (simp <;> omega)) | with_reducible (apply Blk.alloc) | with_reducible (apply Blk.drew)))
          replace hn : Blk x8.drew (w.heap.size + 3) 39 #[.slice (some ad) n c, .int .i64 ((p + s : Nat) : Int)] := (by repeat (first | with_reducible exact hn | with_reducible (apply Blk.set_) | with_reducible (apply Blk.far; case hp => (simp <;> omega)) | with_reducible (apply Blk.alloc) | with_reducible (apply Blk.drew)))
          replace ho : Blk x8.drew (w.heap.size + 4) 58 #[.int .i64 v0, .int .i64 v1, .int .i64 ((u : Int) % 1000)] := (by repeat (first | with_reducible exact ho | with_reducible (apply Blk.set_) | with_reducible (apply Blk.far; case hp => (simp <;> omega)) | with_reducible (apply Blk.alloc) | with_reducible (apply Blk.drew)))
          replace hB : Below w.heap.size w x8.drew := Below.drew (by have hs_ := hB.size; repeat (first | with_reducible exact hB | with_reducible (refine Below.setCell ?_ (by simp <;> omega) _) | with_reducible (refine Below.alloc ?_ (by first | exact hs_ | (simp <;> omega)) _) | with_reducible (refine Below.drew ?_)))
          generalize x8.drew = x9 at *
          have X_ho_0 : ∀ W, Ext x9 W → W.cell? ⟨(w.heap.size + 4), 0, none⟩ = some (.int .i64 v0) := fun W h_ => ((ho.below h_ ho.lt).cell 0).trans rfl
          have X_ho_1 : ∀ W, Ext x9 W → W.cell? ⟨(w.heap.size + 4), 1, none⟩ = some (.int .i64 v1) := fun W h_ => ((ho.below h_ ho.lt).cell 1).trans rfl
          have X_ho_2 : ∀ W, Ext x9 W → W.cell? ⟨(w.heap.size + 4), 2, none⟩ = some (.int .i64 ((u : Int) % 1000)) := fun W h_ => ((ho.below h_ ho.lt).cell 2).trans rfl
          refine ext_take (i := 0) (oi := ?oit2utge0) (v := ?vt2utge0) ?hit2utge0 (by kernel_rfl) (by kernel_rfl) (by kernel_rfl) hQ ?hwt2utge0 ?hyt2utge0 ?restt2utge0
          case hit2utge0 => simp only [List.getElem?_toArray, List.getElem?_cons_zero]; rfl
          case hwt2utge0 => rfl
          case hyt2utge0 => intro W hW; go_simp; with_reducible rfl
          simp only [Act.put, List.setIfInBounds_toArray, List.set_cons_zero, List.set_cons_succ]
          refine ext_take (i := 1) (oi := ?oit2utge1) (v := ?vt2utge1) ?hit2utge1 (by kernel_rfl) (by kernel_rfl) (by kernel_rfl) hQ ?hwt2utge1 ?hyt2utge1 ?restt2utge1
          case hit2utge1 => simp only [List.getElem?_toArray, List.getElem?_cons_zero, List.getElem?_cons_succ]; rfl
          case hwt2utge1 => rfl
          case hyt2utge1 => intro W hW; go_simp; with_reducible rfl
          simp only [Act.put, List.setIfInBounds_toArray, List.set_cons_zero, List.set_cons_succ]
          refine ext_skip (i := 2) (oi := ?oit2utge2) ?hit2utge2 (by kernel_rfl) (by kernel_rfl) (by kernel_rfl) hQ ?hwt2utge2 ?restt2utge2
          case hit2utge2 => simp only [List.getElem?_toArray, List.getElem?_cons_zero, List.getElem?_cons_succ]; rfl
          case hwt2utge2 => rfl
          simp only [Act.put, List.setIfInBounds_toArray, List.set_cons_zero, List.set_cons_succ]
          refine ext_skip (i := 3) (oi := ?oit2utge3) ?hit2utge3 (by kernel_rfl) (by kernel_rfl) (by kernel_rfl) hQ ?hwt2utge3 ?restt2utge3
          case hit2utge3 => simp only [List.getElem?_toArray, List.getElem?_cons_zero, List.getElem?_cons_succ]; rfl
          case hwt2utge3 => rfl
          simp only [Act.put, List.setIfInBounds_toArray, List.set_cons_zero, List.set_cons_succ]
          refine ext_skip (i := 4) (oi := ?oit2utge4) ?hit2utge4 (by kernel_rfl) (by kernel_rfl) (by kernel_rfl) hQ ?hwt2utge4 ?restt2utge4
          case hit2utge4 => simp only [List.getElem?_toArray, List.getElem?_cons_zero, List.getElem?_cons_succ]; rfl
          case hwt2utge4 => rfl
          simp only [Act.put, List.setIfInBounds_toArray, List.set_cons_zero, List.set_cons_succ]
          refine ext_skip (i := 5) (oi := ?oit2utge5) ?hit2utge5 (by kernel_rfl) (by kernel_rfl) (by kernel_rfl) hQ ?hwt2utge5 ?restt2utge5
          case hit2utge5 => simp only [List.getElem?_toArray, List.getElem?_cons_zero, List.getElem?_cons_succ]; rfl
          case hwt2utge5 => rfl
          simp only [Act.put, List.setIfInBounds_toArray, List.set_cons_zero, List.set_cons_succ]
          refine ext_skip (i := 6) (oi := ?oit2utge6) ?hit2utge6 (by kernel_rfl) (by kernel_rfl) (by kernel_rfl) hQ ?hwt2utge6 ?restt2utge6
          case hit2utge6 => simp only [List.getElem?_toArray, List.getElem?_cons_zero, List.getElem?_cons_succ]; rfl
          case hwt2utge6 => rfl
          simp only [Act.put, List.setIfInBounds_toArray, List.set_cons_zero, List.set_cons_succ]
          refine ext_skip (i := 7) (oi := ?oit2utge7) ?hit2utge7 (by kernel_rfl) (by kernel_rfl) (by kernel_rfl) hQ ?hwt2utge7 ?restt2utge7
          case hit2utge7 => simp only [List.getElem?_toArray, List.getElem?_cons_zero, List.getElem?_cons_succ]; rfl
          case hwt2utge7 => rfl
          simp only [Act.put, List.setIfInBounds_toArray, List.set_cons_zero, List.set_cons_succ]
          refine ext_skip (i := 8) (oi := ?oit2utge8) ?hit2utge8 (by kernel_rfl) (by kernel_rfl) (by kernel_rfl) hQ ?hwt2utge8 ?restt2utge8
          case hit2utge8 => simp only [List.getElem?_toArray, List.getElem?_cons_zero, List.getElem?_cons_succ]; rfl
          case hwt2utge8 => rfl
          simp only [Act.put, List.setIfInBounds_toArray, List.set_cons_zero, List.set_cons_succ]
          refine ext_take (i := 9) (oi := ?oit2utge9) (v := ?vt2utge9) ?hit2utge9 (by kernel_rfl) (by kernel_rfl) (by kernel_rfl) hQ ?hwt2utge9 ?hyt2utge9 ?restt2utge9
          case hit2utge9 => simp only [List.getElem?_toArray, List.getElem?_cons_zero, List.getElem?_cons_succ]; rfl
          case hwt2utge9 => rfl
          case hyt2utge9 => intro W hW; go_simp; with_reducible rfl
          simp only [Act.put, List.setIfInBounds_toArray, List.set_cons_zero, List.set_cons_succ]
          refine ext_take (i := 10) (oi := ?oit2utge10) (v := ?vt2utge10) ?hit2utge10 (by kernel_rfl) (by kernel_rfl) (by kernel_rfl) hQ ?hwt2utge10 ?hyt2utge10 ?restt2utge10
          case hit2utge10 => simp only [List.getElem?_toArray, List.getElem?_cons_zero, List.getElem?_cons_succ]; rfl
          case hwt2utge10 => rfl
          case hyt2utge10 => intro W hW; go_simp; with_reducible rfl
          simp only [Act.put, List.setIfInBounds_toArray, List.set_cons_zero, List.set_cons_succ]
          refine wpAnyH_done (by kernel_rfl) ?_ _
          simp only [NoP]
          clear X_ho_0 X_ho_1 X_ho_2
          go_wp2_with fail
          go_roundw
          case rel => exact ⟨3, p + s, (v0), (v1), ((u : Int) % 1000), (false), by omega, rfl, by go_num, by omega, by omega, by omega, fun _ => (by have h := HOK.out; rw [hdv, hfin] at h; exact h), (by repeat (first | with_reducible exact h2 | with_reducible (apply Blk.set_) | with_reducible (apply Blk.far; case hp => (simp <;> omega)) | with_reducible (apply Blk.alloc) | with_reducible (apply Blk.drew))), (by repeat (first | with_reducible exact h3 | with_reducible (apply Blk.set_) | with_reducible (apply Blk.far; case hp => (simp <;> omega)) | with_reducible (apply Blk.alloc) | with_reducible (apply Blk.drew))), (by repeat (first | with_reducible exact hn | with_reducible (apply Blk.set_) | with_reducible (apply Blk.far; case hp => (simp <;> omega)) | with_reducible (apply Blk.alloc) | with_reducible (apply Blk.drew))), (by repeat (first | with_reducible exact ho | with_reducible (apply Blk.set_) | with_reducible (apply Blk.far; case hp => (simp <;> omega)) | with_reducible (apply Blk.alloc) | with_reducible (apply Blk.drew))), (by have hs_ := hB.size; repeat (first | with_reducible exact hB | with_reducible (refine Below.setCell ?_ (by simp <;> omega) _) | with_reducible (refine Below.alloc ?_ (by first | exact hs_ | (simp <;> omega)) _) | with_reducible (refine Below.drew ?_)))⟩
          case measure => simp [intOf]
    · have hR := h3_ rfl
      clear h0_ h1_ h2_ h3_
      obtain ⟨r1, r2, r3, r4⟩ := hR.fin rfl
      clear hR
      cases f
      · have HE := Lib.hid (show rrE l a = 12 from by rw [HF2.out, if_neg (by rw [r1]; simp), if_pos r4])
        have HN0 := Lib.hid (show (12 : Int) ≠ 0 by decide)
        have z901 : wr.cell? ⟨(w.heap.size + 1), 0, none⟩ = some (.slice none 0 0) := (h2.cell 0).trans rfl
        have z902 := h2.frozen 0
        have z903 : wr.cell? ⟨(w.heap.size + 1), 1, none⟩ = some (.int .i64 0) := (h2.cell 1).trans rfl
        have z904 := h2.frozen 1
        have z905 : wr.cell? ⟨(w.heap.size + 2), 0, none⟩ = some (.int .u8 0) := (h3.cell 0).trans rfl
        have z906 := h3.frozen 0
        have z907 : wr.cell? ⟨(w.heap.size + 2), 1, none⟩ = some (.int .i64 0) := (h3.cell 1).trans rfl
        have z908 := h3.frozen 1
        have z909 : wr.cell? ⟨(w.heap.size + 2), 2, none⟩ = some (.int .i64 0) := (h3.cell 2).trans rfl
        have z910 := h3.frozen 2
        have z911 : wr.cell? ⟨(w.heap.size + 2), 3, none⟩ = some (.int .i64 0) := (h3.cell 3).trans rfl
        have z912 := h3.frozen 3
        have z913 := h2.lt
        have z914 := h3.lt
        have z915 := hn.lt
        have z916 := ho.lt
        go_wp2_with fail
        refine ret_cc1 rfl curT insT rfl (by repeat (first | with_reducible exact h2 | with_reducible (apply Blk.set_) | with_reducible (apply Blk.far; case hp => (simp <;> omega)) | with_reducible (apply Blk.alloc) | with_reducible (apply Blk.drew))) (by rfl) rfl (by repeat (first | with_reducible exact h3 | with_reducible (apply Blk.set_) | with_reducible (apply Blk.far; case hp => (simp <;> omega)) | with_reducible (apply Blk.alloc) | with_reducible (apply Blk.drew))) (by rfl) ?_
        exact ⟨.inr ⟨by rw [HE.out]; exact HN0.out, by rw [HE.out]; rfl⟩, (by have hs_ := hB.size; repeat (first | with_reducible exact hB | with_reducible (refine Below.setCell ?_ (by simp <;> omega) _) | with_reducible (refine Below.alloc ?_ (by first | exact hs_ | (simp <;> omega)) _) | with_reducible (refine Below.drew ?_)))⟩
      have HE := Lib.hid (show rrE l a = 0 from by rw [HF2.out, if_neg (by rw [r1]; simp), if_neg (by rw [r4]; decide)])
      have E2 := Lib.hid (show (rrS l a).2.1 = [v0, v1, v2] from by rw [HF1.out]; exact r2)
      have E3 := Lib.hid (show (rrS l a).2.2.1 = p from by rw [HF1.out]; exact r3)
      clear r1 r2 r3 r4
      have z901 : wr.cell? ⟨(w.heap.size + 3), 0, none⟩ = some (.slice (some ad) n c) := (hn.cell 0).trans rfl
      have z902 := hn.frozen 0
      have z903 : wr.cell? ⟨(w.heap.size + 3), 1, none⟩ = some (.int .i64 (p : Int)) := (hn.cell 1).trans rfl
      have z904 := hn.frozen 1
      have z905 : wr.cell? ⟨(w.heap.size + 4), 0, none⟩ = some (.int .i64 v0) := (ho.cell 0).trans rfl
      have z906 := ho.frozen 0
      have z907 : wr.cell? ⟨(w.heap.size + 4), 1, none⟩ = some (.int .i64 v1) := (ho.cell 1).trans rfl
      have z908 := ho.frozen 1
      have z909 : wr.cell? ⟨(w.heap.size + 4), 2, none⟩ = some (.int .i64 v2) := (ho.cell 2).trans rfl
      have z910 := ho.frozen 2
      have z911 := h2.lt
      have z912 := h3.lt
      have z913 := hn.lt
      have z914 := ho.lt
      go_wp2_with fail
      clear z901 z902 z903 z904 z905 z906 z907 z908 z909 z910 z911 z912 z913 z914
      refine s_go (KeepS [((w.heap.size + 3), 39, #[.slice (some ad) n c, .int .i64 (p : Int)]), ((w.heap.size + 4), 58, #[.int .i64 v0, .int .i64 v1, .int .i64 v2])]) (by kernel_rfl) (fun hQ0 x9 b => ?_)
      replace hn : Blk x9 (w.heap.size + 3) 39 #[.slice (some ad) n c, .int .i64 (p : Int)] := hn.below b hn.lt
      replace ho : Blk x9 (w.heap.size + 4) 58 #[.int .i64 v0, .int .i64 v1, .int .i64 v2] := ho.below b ho.lt
      replace h2 := h2.below b h2.lt
      replace h3 := h3.below b h3.lt
      replace hB := hB.trans (b.mono hB.size)
      clear b
      refine ⟨KeepS.cons hn (KeepS.cons ho (KeepS.nil _)), ?_⟩
      have hQ := And.intro hQ0 (KeepS.cons hn (KeepS.cons ho (KeepS.nil x9)))
      have X0 : ∀ W, KeepS [((w.heap.size + 3), 39, #[.slice (some ad) n c, .int .i64 (p : Int)]), ((w.heap.size + 4), 58, #[.int .i64 v0, .int .i64 v1, .int .i64 v2])] W → W.cell? ⟨w.heap.size + 3, 0, none⟩ = some (.slice (some ad) n c) := fun W h => (h.hd.cell 0).trans rfl
      have X1 : ∀ W, KeepS [((w.heap.size + 3), 39, #[.slice (some ad) n c, .int .i64 (p : Int)]), ((w.heap.size + 4), 58, #[.int .i64 v0, .int .i64 v1, .int .i64 v2])] W → W.cell? ⟨w.heap.size + 3, 1, none⟩ = some (.int .i64 (p : Int)) := fun W h => (h.hd.cell 1).trans rfl
      have X2 : ∀ W, KeepS [((w.heap.size + 3), 39, #[.slice (some ad) n c, .int .i64 (p : Int)]), ((w.heap.size + 4), 58, #[.int .i64 v0, .int .i64 v1, .int .i64 v2])] W → W.cell? ⟨w.heap.size + 4, 0, none⟩ = some (.int .i64 v0) := fun W h => (h.tl.hd.cell 0).trans rfl
      have X3 : ∀ W, KeepS [((w.heap.size + 3), 39, #[.slice (some ad) n c, .int .i64 (p : Int)]), ((w.heap.size + 4), 58, #[.int .i64 v0, .int .i64 v1, .int .i64 v2])] W → W.cell? ⟨w.heap.size + 4, 1, none⟩ = some (.int .i64 v1) := fun W h => (h.tl.hd.cell 1).trans rfl
      have X4 : ∀ W, KeepS [((w.heap.size + 3), 39, #[.slice (some ad) n c, .int .i64 (p : Int)]), ((w.heap.size + 4), 58, #[.int .i64 v0, .int .i64 v1, .int .i64 v2])] W → W.cell? ⟨w.heap.size + 4, 2, none⟩ = some (.int .i64 v2) := fun W h => (h.tl.hd.cell 2).trans rfl
      refine s_take (i := 0) (oi := ?oiz0) (v := ?vz0) ?hiz0 (by kernel_rfl) (by kernel_rfl) (by kernel_rfl) hQ ?hwz0 ?hyz0 ?restz0
      case hiz0 => simp only [List.getElem?_toArray, List.getElem?_cons_zero]; rfl
      case hwz0 => rfl
      case hyz0 => intro W hW; go_simp; with_reducible rfl
      simp only [Act.put, List.setIfInBounds_toArray, List.set_cons_zero, List.set_cons_succ]
      refine s_take (i := 1) (oi := ?oiz1) (v := ?vz1) ?hiz1 (by kernel_rfl) (by kernel_rfl) (by kernel_rfl) hQ ?hwz1 ?hyz1 ?restz1
      case hiz1 => simp only [List.getElem?_toArray, List.getElem?_cons_zero, List.getElem?_cons_succ]; rfl
      case hwz1 => rfl
      case hyz1 => intro W hW; go_simp; with_reducible rfl
      simp only [Act.put, List.setIfInBounds_toArray, List.set_cons_zero, List.set_cons_succ]
      refine s_take (i := 2) (oi := ?oiz2) (v := ?vz2) ?hiz2 (by kernel_rfl) (by kernel_rfl) (by kernel_rfl) hQ ?hwz2 ?hyz2 ?restz2
      case hiz2 => simp only [List.getElem?_toArray, List.getElem?_cons_zero, List.getElem?_cons_succ]; rfl
      case hwz2 => rfl
      case hyz2 => intro W hW; go_simp; with_reducible rfl
      simp only [Act.put, List.setIfInBounds_toArray, List.set_cons_zero, List.set_cons_succ]
      refine s_take (i := 3) (oi := ?oiz3) (v := ?vz3) ?hiz3 (by kernel_rfl) (by kernel_rfl) (by kernel_rfl) hQ ?hwz3 ?hyz3 ?restz3
      case hiz3 => simp only [List.getElem?_toArray, List.getElem?_cons_zero, List.getElem?_cons_succ]; rfl
      case hwz3 => rfl
      case hyz3 => intro W hW; go_simp; with_reducible rfl
      simp only [Act.put, List.setIfInBounds_toArray, List.set_cons_zero, List.set_cons_succ]
      refine s_take (i := 4) (oi := ?oiz4) (v := ?vz4) ?hiz4 (by kernel_rfl) (by kernel_rfl) (by kernel_rfl) hQ ?hwz4 ?hyz4 ?restz4
      case hiz4 => simp only [List.getElem?_toArray, List.getElem?_cons_zero, List.getElem?_cons_succ]; rfl
      case hwz4 => rfl
      case hyz4 => intro W hW; go_simp; with_reducible rfl
      simp only [Act.put, List.setIfInBounds_toArray, List.set_cons_zero, List.set_cons_succ]
      refine s_take (i := 5) (oi := ?oiz5) (v := ?vz5) ?hiz5 (by kernel_rfl) (by kernel_rfl) (by kernel_rfl) hQ ?hwz5 ?hyz5 ?restz5
      case hiz5 => simp only [List.getElem?_toArray, List.getElem?_cons_zero, List.getElem?_cons_succ]; rfl
      case hwz5 => rfl
      case hyz5 => intro W hW; go_simp; with_reducible rfl
      simp only [Act.put, List.setIfInBounds_toArray, List.set_cons_zero, List.set_cons_succ]
      refine s_take (i := 6) (oi := ?oiz6) (v := ?vz6) ?hiz6 (by kernel_rfl) (by kernel_rfl) (by kernel_rfl) hQ ?hwz6 ?hyz6 ?restz6
      case hiz6 => simp only [List.getElem?_toArray, List.getElem?_cons_zero, List.getElem?_cons_succ]; rfl
      case hwz6 => rfl
      case hyz6 => intro W hW; go_simp; with_reducible rfl
      simp only [Act.put, List.setIfInBounds_toArray, List.set_cons_zero, List.set_cons_succ]
      refine s_take (i := 7) (oi := ?oiz7) (v := ?vz7) ?hiz7 (by kernel_rfl) (by kernel_rfl) (by kernel_rfl) hQ ?hwz7 ?hyz7 ?restz7
      case hiz7 => simp only [List.getElem?_toArray, List.getElem?_cons_zero, List.getElem?_cons_succ]; rfl
      case hwz7 => rfl
      case hyz7 => intro W hW; go_simp; with_reducible rfl
      simp only [Act.put, List.setIfInBounds_toArray, List.set_cons_zero, List.set_cons_succ]
      refine s_take (i := 8) (oi := ?oiz8) (v := ?vz8) ?hiz8 (by kernel_rfl) (by kernel_rfl) (by kernel_rfl) hQ ?hwz8 ?hyz8 ?restz8
      case hiz8 => simp only [List.getElem?_toArray, List.getElem?_cons_zero, List.getElem?_cons_succ]; rfl
      case hwz8 => rfl
      case hyz8 => intro W hW; go_simp; with_reducible rfl
      simp only [Act.put, List.setIfInBounds_toArray, List.set_cons_zero, List.set_cons_succ]
      refine s_step (i := 9) (oi := ?oiz9) (by kernel_rfl) ?hiz9 ?hwz9 (fun K hK => ?_)
      case hiz9 => simp only [List.getElem?_toArray, List.getElem?_cons_zero, List.getElem?_cons_succ]; rfl
      case hwz9 => rfl
      have y0 : x9.cell? ⟨(w.heap.size + 1), 0, none⟩ = some (.slice none 0 0) := (h2.cell 0).trans rfl; have yf0 := h2.frozen 0; have y1 : x9.cell? ⟨(w.heap.size + 1), 1, none⟩ = some (.int .i64 0) := (h2.cell 1).trans rfl; have yf1 := h2.frozen 1; go_simp; clear y0 yf0 y1 yf1; have gm : Blk ((x9.setCell ⟨(w.heap.size + 1), 0, none⟩ (.slice (some ad) n c)).setCell ⟨(w.heap.size + 1), 1, none⟩ (.int .i64 (p : Int))) (w.heap.size + 1) 39 #[.slice (some ad) n c, .int .i64 (p : Int)] := ((h2.set_ 0 (.slice (some ad) n c)).set_ 1 (.int .i64 (p : Int))); have gc := ((hn.far (p := ⟨(w.heap.size + 1), 0, none⟩) (by simp <;> omega) (.slice (some ad) n c)).far (p := ⟨(w.heap.size + 1), 1, none⟩) (by simp <;> omega) (.int .i64 (p : Int))); have gx := ((ho.far (p := ⟨(w.heap.size + 1), 0, none⟩) (by simp <;> omega) (.slice (some ad) n c)).far (p := ⟨(w.heap.size + 1), 1, none⟩) (by simp <;> omega) (.int .i64 (p : Int))); have go_ := ((h3.far (p := ⟨(w.heap.size + 1), 0, none⟩) (by simp <;> omega) (.slice (some ad) n c)).far (p := ⟨(w.heap.size + 1), 1, none⟩) (by simp <;> omega) (.int .i64 (p : Int))); have gB := ((hB.setCell (p := ⟨(w.heap.size + 1), 0, none⟩) (by simp <;> omega) (.slice (some ad) n c)).setCell (p := ⟨(w.heap.size + 1), 1, none⟩) (by simp <;> omega) (.int .i64 (p : Int))); refine hK _ _ (KeepS.cons gc (KeepS.cons gx (KeepS.nil _))) ?_; clear hn ho h2 h3 hB; generalize ((x9.setCell ⟨(w.heap.size + 1), 0, none⟩ (.slice (some ad) n c)).setCell ⟨(w.heap.size + 1), 1, none⟩ (.int .i64 (p : Int))) = x8 at *; have h2 := gm; have hn := gc; have ho := gx; have h3 := go_; have hB := gB; clear gm gc gx go_ gB; have hQ := And.intro hQ0 (KeepS.cons hn (KeepS.cons ho (KeepS.nil x8)))
      try simp only [Act.put, List.setIfInBounds_toArray, List.set_cons_zero, List.set_cons_succ]
      refine s_step (i := 10) (oi := ?oiz10) (by kernel_rfl) ?hiz10 ?hwz10 (fun K hK => ?_)
      case hiz10 => simp only [List.getElem?_toArray, List.getElem?_cons_zero, List.getElem?_cons_succ]; rfl
      case hwz10 => rfl
      have y0 : x8.cell? ⟨(w.heap.size + 2), 0, none⟩ = some (.int .u8 0) := (h3.cell 0).trans rfl; have yf0 := h3.frozen 0; have y1 : x8.cell? ⟨(w.heap.size + 2), 1, none⟩ = some (.int .i64 0) := (h3.cell 1).trans rfl; have yf1 := h3.frozen 1; have y2 : x8.cell? ⟨(w.heap.size + 2), 2, none⟩ = some (.int .i64 0) := (h3.cell 2).trans rfl; have yf2 := h3.frozen 2; have y3 : x8.cell? ⟨(w.heap.size + 2), 3, none⟩ = some (.int .i64 0) := (h3.cell 3).trans rfl; have yf3 := h3.frozen 3; go_simp; clear y0 yf0 y1 yf1 y2 yf2 y3 yf3; have gm : Blk ((((x8.setCell ⟨(w.heap.size + 2), 0, none⟩ (.int .u8 (op : Int))).setCell ⟨(w.heap.size + 2), 1, none⟩ (.int .i64 v0)).setCell ⟨(w.heap.size + 2), 2, none⟩ (.int .i64 v1)).setCell ⟨(w.heap.size + 2), 3, none⟩ (.int .i64 v2)) (w.heap.size + 2) 23 #[.int .u8 (op : Int), .int .i64 v0, .int .i64 v1, .int .i64 v2] := ((((h3.set_ 0 (.int .u8 (op : Int))).set_ 1 (.int .i64 v0)).set_ 2 (.int .i64 v1)).set_ 3 (.int .i64 v2)); have gc := ((((hn.far (p := ⟨(w.heap.size + 2), 0, none⟩) (by simp <;> omega) (.int .u8 (op : Int))).far (p := ⟨(w.heap.size + 2), 1, none⟩) (by simp <;> omega) (.int .i64 v0)).far (p := ⟨(w.heap.size + 2), 2, none⟩) (by simp <;> omega) (.int .i64 v1)).far (p := ⟨(w.heap.size + 2), 3, none⟩) (by simp <;> omega) (.int .i64 v2)); have gx := ((((ho.far (p := ⟨(w.heap.size + 2), 0, none⟩) (by simp <;> omega) (.int .u8 (op : Int))).far (p := ⟨(w.heap.size + 2), 1, none⟩) (by simp <;> omega) (.int .i64 v0)).far (p := ⟨(w.heap.size + 2), 2, none⟩) (by simp <;> omega) (.int .i64 v1)).far (p := ⟨(w.heap.size + 2), 3, none⟩) (by simp <;> omega) (.int .i64 v2)); have go_ := ((((h2.far (p := ⟨(w.heap.size + 2), 0, none⟩) (by simp <;> omega) (.int .u8 (op : Int))).far (p := ⟨(w.heap.size + 2), 1, none⟩) (by simp <;> omega) (.int .i64 v0)).far (p := ⟨(w.heap.size + 2), 2, none⟩) (by simp <;> omega) (.int .i64 v1)).far (p := ⟨(w.heap.size + 2), 3, none⟩) (by simp <;> omega) (.int .i64 v2)); have gB := ((((hB.setCell (p := ⟨(w.heap.size + 2), 0, none⟩) (by simp <;> omega) (.int .u8 (op : Int))).setCell (p := ⟨(w.heap.size + 2), 1, none⟩) (by simp <;> omega) (.int .i64 v0)).setCell (p := ⟨(w.heap.size + 2), 2, none⟩) (by simp <;> omega) (.int .i64 v1)).setCell (p := ⟨(w.heap.size + 2), 3, none⟩) (by simp <;> omega) (.int .i64 v2)); refine hK _ _ (KeepS.cons gc (KeepS.cons gx (KeepS.nil _))) ?_; clear hn ho h2 h3 hB; generalize ((((x8.setCell ⟨(w.heap.size + 2), 0, none⟩ (.int .u8 (op : Int))).setCell ⟨(w.heap.size + 2), 1, none⟩ (.int .i64 v0)).setCell ⟨(w.heap.size + 2), 2, none⟩ (.int .i64 v1)).setCell ⟨(w.heap.size + 2), 3, none⟩ (.int .i64 v2)) = x7 at *; have h3 := gm; have hn := gc; have ho := gx; have h2 := go_; have hB := gB; clear gm gc gx go_ gB; have hQ := And.intro hQ0 (KeepS.cons hn (KeepS.cons ho (KeepS.nil x7)))
      try simp only [Act.put, List.setIfInBounds_toArray, List.set_cons_zero, List.set_cons_succ]
      refine s_take (i := 11) (oi := ?oiz11) (v := ?vz11) ?hiz11 (by kernel_rfl) (by kernel_rfl) (by kernel_rfl) hQ ?hwz11 ?hyz11 ?restz11
      case hiz11 => simp only [List.getElem?_toArray, List.getElem?_cons_zero, List.getElem?_cons_succ]; rfl
      case hwz11 => rfl
      case hyz11 => intro W hW; go_simp; with_reducible rfl
      simp only [Act.put, List.setIfInBounds_toArray, List.set_cons_zero, List.set_cons_succ]
      refine wpAnyH_done (by kernel_rfl) ?_ _
      simp only [NoP]
      clear X0 X1 X2 X3 X4 hQ hQ0
      go_wp2_with fail
      refine ret_cc1 rfl curT insT rfl h2 (by rfl) rfl h3 (by rfl) ?_
      exact ⟨.inl ⟨HE.out, v0, v1, v2, E2.out, by rw [E3.out, HOP.out]; rfl⟩, hB⟩
    · omega

end Go.Proofs.Ytkhdeoihjnpnaaa
