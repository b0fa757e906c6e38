/- What the code's Reverse and Extend come to. No condition beyond the ranges that stand in each lemma. -/
import Derived.Test.YtfjcanleekmagaaSet
namespace Go.Proofs.Ytfjcanleekmagaa.Pure
open Go.RowKit Go.Proofs.Ytfjcanleekmagaa.Fn Go.Proofs.YtfjcanleekmagaaW.PrintWords Go.Proofs.YtfjcanleekmagaaW.PrintLast Go.Proofs.YtfjcanleekmagaaW.PrintMore

/-- One stage of the turning: the bits under the mask go up by s, the others come down. -/
def stg (s m x : Nat) : Nat := ((x / 2 ^ s) &&& m) ||| (((x &&& m) * 2 ^ s) % 2 ^ 64)
theorem stg_lt {s m x : Nat} (hm : m < 2 ^ 64) : stg s m x < 2 ^ 64 :=
  Nat.or_lt_two_pow (Nat.lt_of_le_of_lt Nat.and_le_right hm) (Nat.mod_lt _ (by decide))
theorem stg_eq {s m x : Nat} (hm : m < 2 ^ 64) (hx : x < 2 ^ 64) {q M : Int} (hq : q = ((2 ^ s : Nat) : Int)) (hm' : M = ((m : Nat) : Int)) :
    Go.bits .or .u64 (Go.bits .and .u64 ((x : Int) / q) M) (IntKind.u64.wrap ((Go.bits .and .u64 (x : Int) M) * q)) = ((stg s m x : Nat) : Int) := by
  subst hq
  subst hm'
  have h1 : x / 2 ^ s < 18446744073709551616 := Nat.lt_of_le_of_lt (Nat.div_le_self _ _) hx
  have e1 : (x : Int) / ((2 ^ s : Nat) : Int) = ((x / 2 ^ s : Nat) : Int) := (Int.natCast_ediv x (2 ^ s)).symm
  have h2 : x / 2 ^ s &&& m < 18446744073709551616 := Nat.lt_of_le_of_lt Nat.and_le_right hm
  have e2 : (((x &&& m : Nat) : Int) * ((2 ^ s : Nat) : Int)) % 18446744073709551616 = ((((x &&& m) * 2 ^ s) % 2 ^ 64 : Nat) : Int) := by
    rw [Int.natCast_emod, Int.natCast_mul]; rfl
  have h3 : ((x &&& m) * 2 ^ s) % 2 ^ 64 < 18446744073709551616 := Nat.mod_lt _ (by decide)
  rw [e1, u64_and_nat _ _ h1 hm, u64_and_nat _ _ hx hm, u64_eq, e2, u64_or_nat _ _ h2 h3]; rfl
/-- Where bit t of a stage's answer comes from. -/
def from' (s m t : Nat) : Nat := if m.testBit t then t + s else t - s
def Good (s m : Nat) : Prop := ∀ t : Fin 64, (m.testBit t = false → s ≤ t.val ∧ m.testBit (t.val - s) = true) ∧ (m.testBit t = true → m.testBit (t.val - s) = false ∨ t.val < s)
theorem stg_bit {s m x t : Nat} (hg : Good s m) (ht : t < 64) : (stg s m x).testBit t = x.testBit (from' s m t) := by
  obtain ⟨g1, g2⟩ := hg ⟨t, ht⟩
  simp only at g1 g2
  unfold stg from'
  rw [Nat.testBit_or, Nat.testBit_and, Nat.testBit_div_two_pow, Nat.testBit_mod_two_pow, Nat.testBit_mul_two_pow, Nat.testBit_and, decide_eq_true ht]
  cases h : m.testBit t
  · obtain ⟨h1, h2⟩ := g1 h
    rw [h2, decide_eq_true (show s ≤ t from h1)]; simp
  · rcases g2 h with h1 | h1
    · rw [h1]; simp
    · rw [decide_eq_false (by omega)]; simp
def A1 : Nat := 6148914691236517205
def A2 : Nat := 3689348814741910323
def A3 : Nat := 1085102592571150095
def A4 : Nat := 71777214294589695
def A5 : Nat := 281470681808895
def rev (x : Nat) : Nat := ((stg 16 A5 (stg 8 A4 (stg 4 A3 (stg 2 A2 (stg 1 A1 x))))) / 2 ^ 32) ||| (((stg 16 A5 (stg 8 A4 (stg 4 A3 (stg 2 A2 (stg 1 A1 x))))) * 2 ^ 32) % 2 ^ 64)
theorem turn32 {x : Nat} (hx : x < 18446744073709551616) : Go.bits .or .u64 ((x : Int) / 4294967296) (IntKind.u64.wrap ((x : Int) * 4294967296)) = (((x / 2 ^ 32) ||| ((x * 2 ^ 32) % 2 ^ 64) : Nat) : Int) := by
  have h1 : x / 2 ^ 32 < 18446744073709551616 := Nat.lt_of_le_of_lt (Nat.div_le_self _ _) hx
  have h3 : (x * 2 ^ 32) % 2 ^ 64 < 18446744073709551616 := Nat.mod_lt _ (by decide)
  have e1 : (x : Int) / 4294967296 = ((x / 2 ^ 32 : Nat) : Int) := by omega
  have e2 : IntKind.u64.wrap ((x : Int) * 4294967296) = (((x * 2 ^ 32) % 2 ^ 64 : Nat) : Int) := by rw [u64_eq]; omega
  rw [e1, e2, u64_or_nat _ _ h1 h3]
theorem good1 : Good 1 A1 := by unfold Good; decide +kernel
theorem good2 : Good 2 A2 := by unfold Good; decide +kernel
theorem good3 : Good 4 A3 := by unfold Good; decide +kernel
theorem good4 : Good 8 A4 := by unfold Good; decide +kernel
theorem good5 : Good 16 A5 := by unfold Good; decide +kernel
theorem rev_f {x : Nat} (hx : x < 2 ^ 64) : bits_Reverse64.f (x : Int) = some ((rev x : Nat) : Int) := by
  unfold bits_Reverse64.f bits_ReverseBytes64.f
  have h1 : stg 1 A1 x < 2 ^ 64 := stg_lt (by decide)
  have h2 : stg 2 A2 (stg 1 A1 x) < 2 ^ 64 := stg_lt (by decide)
  have h3 : stg 4 A3 (stg 2 A2 (stg 1 A1 x)) < 2 ^ 64 := stg_lt (by decide)
  have h4 : stg 8 A4 (stg 4 A3 (stg 2 A2 (stg 1 A1 x))) < 2 ^ 64 := stg_lt (by decide)
  have h5 : stg 16 A5 (stg 8 A4 (stg 4 A3 (stg 2 A2 (stg 1 A1 x)))) < 2 ^ 64 := stg_lt (by decide)
  rw [stg_eq (s := 1) (m := A1) (q := 2) (M := 6148914691236517205) (by decide) hx rfl rfl, stg_eq (s := 2) (m := A2) (q := 4) (M := 3689348814741910323) (by decide) h1 rfl rfl, stg_eq (s := 4) (m := A3) (q := 16) (M := 1085102592571150095) (by decide) h2 rfl rfl,
    stg_eq (s := 8) (m := A4) (q := 256) (M := 71777214294589695) (by decide) h3 rfl rfl, stg_eq (s := 16) (m := A5) (q := 65536) (M := 281470681808895) (by decide) h4 rfl rfl, turn32 h5]; rfl
def src (t : Nat) : Nat := from' 1 A1 (from' 2 A2 (from' 4 A3 (from' 8 A4 (from' 16 A5 (if t < 32 then t + 32 else t - 32)))))
theorem src_all : ∀ t : Fin 64, (if t.val < 32 then t.val + 32 else t.val - 32) < 64 ∧ from' 16 A5 (if t.val < 32 then t.val + 32 else t.val - 32) < 64 ∧ from' 8 A4 (from' 16 A5 (if t.val < 32 then t.val + 32 else t.val - 32)) < 64 ∧ from' 4 A3 (from' 8 A4 (from' 16 A5 (if t.val < 32 then t.val + 32 else t.val - 32))) < 64 ∧ from' 2 A2 (from' 4 A3 (from' 8 A4 (from' 16 A5 (if t.val < 32 then t.val + 32 else t.val - 32)))) < 64 ∧ src t.val = 63 - t.val := by decide +kernel
theorem rev_lt (x : Nat) : rev x < 2 ^ 64 := by
  unfold rev
  refine Nat.or_lt_two_pow (Nat.lt_of_le_of_lt (Nat.div_le_self _ _) (stg_lt (by decide))) (Nat.mod_lt _ (by decide))
theorem rev_bit {x t : Nat} (ht : t < 64) : (rev x).testBit t = x.testBit (63 - t) := by
  obtain ⟨s1, s2, s3, s4, s5, s6⟩ := src_all ⟨t, ht⟩
  simp only at s1 s2 s3 s4 s5 s6
  have h5 : stg 16 A5 (stg 8 A4 (stg 4 A3 (stg 2 A2 (stg 1 A1 x)))) < 2 ^ 64 := stg_lt (by decide)
  have e : (rev x).testBit t = (stg 16 A5 (stg 8 A4 (stg 4 A3 (stg 2 A2 (stg 1 A1 x))))).testBit (if t < 32 then t + 32 else t - 32) := by
    unfold rev
    generalize stg 16 A5 (stg 8 A4 (stg 4 A3 (stg 2 A2 (stg 1 A1 x)))) = y at h5 ⊢
    rw [Nat.testBit_or, Nat.testBit_div_two_pow, Nat.testBit_mod_two_pow, Nat.testBit_mul_two_pow, decide_eq_true ht]
    by_cases h : t < 32
    · rw [if_pos h, decide_eq_false (by omega)]; simp
    · rw [if_neg h, decide_eq_true (show 32 ≤ t by omega)]
      have : y.testBit (t + 32) = false := Nat.testBit_lt_two_pow (Nat.lt_of_lt_of_le h5 (Nat.pow_le_pow_right (by decide) (by omega)))
      rw [this]; simp
  rw [e, stg_bit good5 s1, stg_bit good4 s2, stg_bit good3 s3, stg_bit good2 s4, stg_bit good1 s5]
  show x.testBit (src t) = _
  rw [s6]
/-! Powers of two and a number held to a width (lines of our own, from the seat of the casts). -/
def P (m : Nat) : Int := 2 ^ m
theorem P_pos (m : Nat) : 0 < P m := Int.pow_pos (by decide)
theorem P_succ (m : Nat) : P (m + 1) = 2 * P m := by unfold P; rw [Int.pow_succ]; omega
theorem P_add (a b : Nat) : P (a + b) = P a * P b := Int.pow_add 2 a b
theorem P_64 : P 64 = 18446744073709551616 := by decide
theorem P_63 : P 63 = 9223372036854775808 := by decide
theorem P_mono {a b : Nat} (h : a ≤ b) : P a ≤ P b := by
  obtain ⟨c, rfl⟩ : ∃ c, b = a + c := ⟨b - a, by omega⟩
  rw [P_add]
  have h0 := P_pos a
  have h1 := P_pos c
  have : P a * 1 ≤ P a * P c := Int.mul_le_mul_of_nonneg_left (by omega) (by omega)
  omega
theorem P_half {m : Nat} (h : 1 ≤ m) : P m = 2 * P (m - 1) := by
  obtain ⟨c, rfl⟩ : ∃ c, m = c + 1 := ⟨m - 1, by omega⟩
  exact P_succ c
theorem P_nat (m : Nat) : P m = ((2 ^ m : Nat) : Int) := by unfold P; rw [Int.natCast_pow]; rfl
theorem P_dvd {m : Nat} (h : m ≤ 64) : P m ∣ 18446744073709551616 := by
  refine ⟨P (64 - m), ?_⟩
  rw [← P_add, ← P_64]
  congr 1
  omega

/-- The number with a sign of m bits. -/
def W (m : Nat) (v : Int) : Int := (v + P (m - 1)) % P m - P (m - 1)
theorem W_bd {m : Nat} (h : 1 ≤ m) (v : Int) : -P (m - 1) ≤ W m v ∧ W m v < P (m - 1) := by
  unfold W
  have h1 := P_half h
  have h2 := Int.emod_nonneg (v + P (m - 1)) (show P m ≠ 0 by have := P_pos m; omega)
  have h3 := Int.emod_lt_of_pos (v + P (m - 1)) (P_pos m)
  omega
theorem W_dvd (m : Nat) (v : Int) : P m ∣ W m v - v := by
  unfold W
  refine ⟨-((v + P (m - 1)) / P m), ?_⟩
  have := Int.emod_def (v + P (m - 1)) (P m)
  rw [this, Int.mul_neg]
  omega
theorem W_congr {m : Nat} {a b : Int} (h : P m ∣ a - b) : W m a = W m b := by
  unfold W
  have : (a + P (m - 1)) % P m = (b + P (m - 1)) % P m := by
    rw [Int.emod_eq_emod_iff_emod_sub_eq_zero]
    obtain ⟨q, hq⟩ := h
    rw [show a + P (m - 1) - (b + P (m - 1)) = P m * q from by omega]
    exact Int.mul_emod_right _ _
  rw [this]
theorem W_fix {m : Nat} (h : 1 ≤ m) {v : Int} (h0 : -P (m - 1) ≤ v) (h1 : v < P (m - 1)) : W m v = v := by
  unfold W
  rw [Int.emod_eq_of_lt (by omega) (by rw [P_half h]; omega)]
  omega

theorem shlr {m : Nat} (h1 : 1 ≤ m) (h2 : m ≤ 64) (v : Int) : shr .i64 (shl .i64 v (64 - (m : Int))) (64 - (m : Int)) = W m v := by
  unfold shr shl
  have e : (64 - (m : Int)).toNat = 64 - m := by omega
  rw [e, Nat.min_eq_left (show 64 - m ≤ IntKind.i64.bits from by show 64 - m ≤ 64; omega), IntKind.wrap_i64]
  have hQ := P_pos (64 - m)
  have e1 : (18446744073709551616 : Int) = P (64 - m) * P m := by rw [← P_add, show 64 - m + m = 64 from by omega, P_64]
  have e2 : (9223372036854775808 : Int) = P (64 - m) * P (m - 1) := by rw [← P_add, show 64 - m + (m - 1) = 63 from by omega, P_63]
  rw [e1, e2]
  show ((v * P (64 - m) + P (64 - m) * P (m - 1)) % (P (64 - m) * P m) - P (64 - m) * P (m - 1)) / P (64 - m) = W m v
  rw [Int.mul_comm v, ← Int.mul_add, Int.mul_emod_mul_of_pos _ _ hQ, ← Int.mul_sub, Int.mul_ediv_cancel_left _ (by omega)]
  rfl
/-! Reverse and Extend. -/
def wd (n : Int) : Nat := (min (max n 0) 64).toNat
theorem wd_le (n : Int) : wd n ≤ 64 := by unfold wd; omega
theorem width_f (n : Int) : bits_width.f n = some ((wd n : Nat) : Int) := by
  unfold bits_width.f wd mn mx
  congr 1
  split <;> split <;> omega
theorem w_left {m : Nat} (h : m ≤ 64) : wrap64 (64 - (m : Int)) = 64 - (m : Int) := w64 (by omega) (by omega)
theorem mask_all : ∀ m : Fin 65, IntKind.u64.wrap ((shl .u64 1 ((m.val : Nat) : Int)) - 1) = ((2 ^ m.val - 1 : Nat) : Int) := by decide +kernel
theorem mask_f (n : Int) : bits_mask.f n = some ((2 ^ wd n - 1 : Nat) : Int) := by
  unfold bits_mask.f
  rw [width_f, Option.bind_some, if_pos (nat_nn _), mask_all ⟨wd n, by have := wd_le n; omega⟩]
/-- The lowest w bits, turned about. -/
def rv (v w : Nat) : Nat := num (fun j => v.testBit j) 0 w
theorem rv_bit (v w t : Nat) : (rv v w).testBit t = (decide (t < w) && v.testBit (w - 1 - t)) := by
  unfold rv; rw [num_bit, Nat.zero_add]
theorem shl_nat {v m : Nat} (h : m ≤ 64) : shl .u64 (v : Int) (64 - (m : Int)) = (((v * 2 ^ (64 - m)) % 2 ^ 64 : Nat) : Int) := by
  unfold shl
  rw [show (64 - (m : Int)).toNat = 64 - m from by omega, Nat.min_eq_left (show 64 - m ≤ IntKind.u64.bits from by show 64 - m ≤ 64; omega), u64_eq]
  rw [Int.natCast_emod, Int.natCast_mul, Int.natCast_pow]; rfl
theorem reverse_f (v : Nat) (n : Int) : bits_Reverse.f (v : Int) n = some ((rv v (wd n) : Nat) : Int) := by
  have hw := wd_le n
  unfold bits_Reverse.f
  have hx : (v * 2 ^ (64 - wd n)) % 2 ^ 64 < 2 ^ 64 := Nat.mod_lt _ (by decide)
  rw [width_f, Option.bind_some, w_left hw, if_pos (by omega), shl_nat hw, rev_f hx, Option.bind_some, mask_f, Option.bind_some]
  have h1 := rev_lt ((v * 2 ^ (64 - wd n)) % 2 ^ 64)
  have h2 : 2 ^ wd n - 1 < 18446744073709551616 := by
    have : 2 ^ wd n ≤ 2 ^ 64 := Nat.pow_le_pow_right (by decide) hw
    have h0 := Nat.pow_pos (n := wd n) (show 0 < 2 from by decide)
    generalize 2 ^ wd n = q at this h0 ⊢
    omega
  rw [u64_and_nat _ _ h1 h2, Nat.and_two_pow_sub_one_eq_mod]
  congr 2
  unfold rv
  apply num_of; intro t
  rw [Nat.testBit_mod_two_pow]
  by_cases ht : t < wd n
  · rw [rev_bit (by omega), Nat.testBit_mod_two_pow, Nat.testBit_mul_two_pow, decide_eq_true ht, decide_eq_true (by omega), decide_eq_true (by omega)]
    simp only [Bool.true_and, Nat.zero_add]
    congr 1; omega
  · rw [decide_eq_false ht]; rfl
def ext (v : Int) (w : Nat) : Int := if w = 0 then 0 else W w v
theorem extend_f (v n : Int) : bits_Extend.f v n = some (ext v (wd n)) := by
  have hw := wd_le n
  unfold bits_Extend.f
  rw [width_f, Option.bind_some, w_left hw, if_pos (by omega)]
  unfold ext
  by_cases h : wd n = 0
  · rw [if_pos h, h]
    congr 1
    have e : shl .u64 v (64 - ((0 : Nat) : Int)) = 0 := by
      unfold shl
      rw [show (64 - ((0 : Nat) : Int)).toNat = 64 from rfl, show min 64 IntKind.u64.bits = 64 from rfl, u64_eq]; omega
    rw [e]; decide +kernel
  · rw [if_neg h]
    have e : wrap64 (shl .u64 v (64 - ((wd n : Nat) : Int))) = shl .i64 v (64 - ((wd n : Nat) : Int)) := by
      unfold shl
      rw [IntKind.wrap_u64, IntKind.wrap_i64]
      show wrap64 (v * 2 ^ min _ 64 % 18446744073709551616) = _
      show _ = (v * 2 ^ min (64 - ((wd n : Nat) : Int)).toNat 64 + 9223372036854775808) % 18446744073709551616 - 9223372036854775808
      generalize v * 2 ^ min (64 - ((wd n : Nat) : Int)).toNat 64 = z
      unfold wrap64; omega
    rw [e, shlr (by omega) hw]
end Go.Proofs.Ytfjcanleekmagaa.Pure
