/- The program's casts as numbers: wrapping, narrowing, clamping to a width, halves, zig and zag, powers. No condition beyond the ranges that stand in each lemma. -/
import Derived.Test.YtjenbokdcbppoaaFn2
import Derived.Laws.BitsAllLaws
import Derived.Laws.Bits64
import Derived.Lib.ItoaNum
namespace Go.Proofs.Ytjenbokdcbppoaa.Pure
open Go.RowKit Go.Proofs.Ytjenbokdcbppoaa.Fn Go.Proofs.YtjenbokdcbppoaaW.PrintWords Go.Proofs.YtjenbokdcbppoaaW.PrintLast Go.Proofs.YtjenbokdcbppoaaW.PrintMore

theorem wf_i64 {x : Int} (h : (Lit.int .i64 x).wf = true) : -9223372036854775808 ≤ x ∧ x < 9223372036854775808 := by
  simp [Lit.wf, IntKind.min, IntKind.max, IntKind.bits, IntKind.signed] at h
  omega
theorem wf_u64 {x : Int} (h : (Lit.int .u64 x).wf = true) : 0 ≤ x ∧ x < 18446744073709551616 := by
  simp [Lit.wf, IntKind.min, IntKind.max, IntKind.bits, IntKind.signed] at h
  omega
theorem w64 {x : Int} (h0 : -9223372036854775808 ≤ x) (h1 : x < 9223372036854775808) : wrap64 x = x := by unfold wrap64; omega
theorem w64_eq (x : Int) : wrap64 x = (x + 9223372036854775808) % 18446744073709551616 - 9223372036854775808 := by unfold wrap64; omega
theorem u64_eq (x : Int) : IntKind.u64.wrap x = x % 18446744073709551616 := IntKind.wrap_u64 x
theorem tmod_in {n : Int} (h0 : 0 ≤ n) (m : Int) : n.tmod m = n % m := Int.tmod_eq_emod_of_nonneg h0
theorem tdiv_in {n : Int} (h0 : 0 ≤ n) (m : Int) : n.tdiv m = n / m := Int.tdiv_eq_ediv_of_nonneg h0

/-! A width. -/
def wd (n : Int) : Nat := (min (max n 1) 64).toNat
theorem wd_bd (n : Int) : 1 ≤ wd n ∧ wd n ≤ 64 := by unfold wd; omega
theorem spare_eq (n : Int) : cast_spare.f n = some (64 - (wd n : Int)) := by
  unfold cast_spare.f wd mn mx
  congr 1
  split <;> split <;> omega

def P (m : Nat) : Int := 2 ^ m
theorem P_pos (m : Nat) : 0 < P m := Int.pow_pos (by decide)
theorem P_succ (m : Nat) : P (m + 1) = 2 * P m := by unfold P; rw [Int.pow_succ]; omega
theorem P_add (a b : Nat) : P (a + b) = P a * P b := Int.pow_add 2 a b
theorem P_64 : P 64 = 18446744073709551616 := by decide
theorem P_63 : P 63 = 9223372036854775808 := by decide
theorem P_mono {a b : Nat} (h : a ≤ b) : P a ≤ P b := by
  obtain ⟨c, rfl⟩ : ∃ c, b = a + c := ⟨b - a, by omega⟩
  rw [P_add]
  have h0 := P_pos a
  have h1 := P_pos c
  have : P a * 1 ≤ P a * P c := Int.mul_le_mul_of_nonneg_left (by omega) (by omega)
  omega
theorem P_half {m : Nat} (h : 1 ≤ m) : P m = 2 * P (m - 1) := by
  obtain ⟨c, rfl⟩ : ∃ c, m = c + 1 := ⟨m - 1, by omega⟩
  exact P_succ c
theorem P_nat (m : Nat) : P m = ((2 ^ m : Nat) : Int) := by unfold P; rw [Int.natCast_pow]; rfl
theorem P_dvd {m : Nat} (h : m ≤ 64) : P m ∣ 18446744073709551616 := by
  refine ⟨P (64 - m), ?_⟩
  rw [← P_add, ← P_64]
  congr 1
  omega

/-- The number with a sign of m bits. -/
def W (m : Nat) (v : Int) : Int := (v + P (m - 1)) % P m - P (m - 1)
theorem W_bd {m : Nat} (h : 1 ≤ m) (v : Int) : -P (m - 1) ≤ W m v ∧ W m v < P (m - 1) := by
  unfold W
  have h1 := P_half h
  have h2 := Int.emod_nonneg (v + P (m - 1)) (show P m ≠ 0 by have := P_pos m; omega)
  have h3 := Int.emod_lt_of_pos (v + P (m - 1)) (P_pos m)
  omega
theorem W_dvd (m : Nat) (v : Int) : P m ∣ W m v - v := by
  unfold W
  refine ⟨-((v + P (m - 1)) / P m), ?_⟩
  have := Int.emod_def (v + P (m - 1)) (P m)
  rw [this, Int.mul_neg]
  omega
theorem W_congr {m : Nat} {a b : Int} (h : P m ∣ a - b) : W m a = W m b := by
  unfold W
  have : (a + P (m - 1)) % P m = (b + P (m - 1)) % P m := by
    rw [Int.emod_eq_emod_iff_emod_sub_eq_zero]
    obtain ⟨q, hq⟩ := h
    rw [show a + P (m - 1) - (b + P (m - 1)) = P m * q from by omega]
    exact Int.mul_emod_right _ _
  rw [this]
theorem W_fix {m : Nat} (h : 1 ≤ m) {v : Int} (h0 : -P (m - 1) ≤ v) (h1 : v < P (m - 1)) : W m v = v := by
  unfold W
  rw [Int.emod_eq_of_lt (by omega) (by rw [P_half h]; omega)]
  omega

theorem shlr {m : Nat} (h1 : 1 ≤ m) (h2 : m ≤ 64) (v : Int) : shr .i64 (shl .i64 v (64 - (m : Int))) (64 - (m : Int)) = W m v := by
  unfold shr shl
  have e : (64 - (m : Int)).toNat = 64 - m := by omega
  rw [e, Nat.min_eq_left (show 64 - m ≤ IntKind.i64.bits from by show 64 - m ≤ 64; omega), IntKind.wrap_i64]
  have hQ := P_pos (64 - m)
  have e1 : (18446744073709551616 : Int) = P (64 - m) * P m := by rw [← P_add, show 64 - m + m = 64 from by omega, P_64]
  have e2 : (9223372036854775808 : Int) = P (64 - m) * P (m - 1) := by rw [← P_add, show 64 - m + (m - 1) = 63 from by omega, P_63]
  rw [e1, e2]
  show ((v * P (64 - m) + P (64 - m) * P (m - 1)) % (P (64 - m) * P m) - P (64 - m) * P (m - 1)) / P (64 - m) = W m v
  rw [Int.mul_comm v, ← Int.mul_add, Int.mul_emod_mul_of_pos _ _ hQ, ← Int.mul_sub, Int.mul_ediv_cancel_left _ (by omega)]
  rfl
theorem ushlr {m : Nat} (h1 : 1 ≤ m) (h2 : m ≤ 64) (v : Int) : shr .u64 (shl .u64 v (64 - (m : Int))) (64 - (m : Int)) = v % P m := by
  unfold shr shl
  have e : (64 - (m : Int)).toNat = 64 - m := by omega
  rw [e, Nat.min_eq_left (show 64 - m ≤ IntKind.u64.bits from by show 64 - m ≤ 64; omega), IntKind.wrap_u64]
  have hQ := P_pos (64 - m)
  have e1 : (18446744073709551616 : Int) = P (64 - m) * P m := by rw [← P_add, show 64 - m + m = 64 from by omega, P_64]
  rw [e1]
  show ((v * P (64 - m)) % (P (64 - m) * P m)) / P (64 - m) = v % P m
  rw [Int.mul_comm v, Int.mul_emod_mul_of_pos _ _ hQ, Int.mul_ediv_cancel_left _ (by omega)]

theorem wrap_f (v n : Int) : cast_Wrap.f v n = some (W (wd n) v) := by
  have h := wd_bd n
  unfold cast_Wrap.f
  rw [spare_eq, Option.bind_some, if_pos (by omega), shlr h.1 h.2]
theorem narrow_f (v n : Int) : cast_Narrow.f v n = some (v % P (wd n), (v % P (wd n)) == v) := by
  have h := wd_bd n
  unfold cast_Narrow.f
  rw [spare_eq, Option.bind_some, if_pos (by omega), ushlr h.1 h.2]
theorem fits_f (v n : Int) : cast_Fits.f v n = some (W (wd n) v == v) := by
  unfold cast_Fits.f
  rw [wrap_f, Option.bind_some]

/-- The nearest of two ends. -/
def btw (v lo hi : Int) : Int := if v < lo then lo else if v > hi then hi else v
theorem between_f (v a b : Int) : cast_Between.f v a b = some (btw v (min a b) (max a b)) := by
  have e1 : mn a b = min a b := by unfold mn; split <;> omega
  have e2 : mx a b = max a b := by unfold mx; split <;> omega
  unfold cast_Between.f cast_ordered_int64.f btw
  rw [Option.bind_some, e1, e2]
  split
  · rfl
  · split <;> rfl
theorem shr_lo {m : Nat} (h1 : 1 ≤ m) (h2 : m ≤ 64) : shr .i64 (-9223372036854775808) (64 - (m : Int)) = -P (m - 1) := by
  unfold shr
  have e : (64 - (m : Int)).toNat = 64 - m := by omega
  rw [e, Nat.min_eq_left (show 64 - m ≤ IntKind.i64.bits from by show 64 - m ≤ 64; omega)]
  have hQ := P_pos (64 - m)
  have e2 : (9223372036854775808 : Int) = P (64 - m) * P (m - 1) := by rw [← P_add, show 64 - m + (m - 1) = 63 from by omega, P_63]
  rw [e2]
  show (-(P (64 - m) * P (m - 1))) / P (64 - m) = _
  rw [← Int.mul_neg, Int.mul_ediv_cancel_left _ (by omega)]
theorem shr_hi {m : Nat} (h1 : 1 ≤ m) (h2 : m ≤ 64) : shr .i64 9223372036854775807 (64 - (m : Int)) = P (m - 1) - 1 := by
  unfold shr
  have e : (64 - (m : Int)).toNat = 64 - m := by omega
  rw [e, Nat.min_eq_left (show 64 - m ≤ IntKind.i64.bits from by show 64 - m ≤ 64; omega)]
  have hQ := P_pos (64 - m)
  have e2 : (9223372036854775807 : Int) = P (64 - m) * (P (m - 1) - 1) + (P (64 - m) - 1) := by
    rw [Int.mul_sub, ← P_add, show 64 - m + (m - 1) = 63 from by omega, P_63]
    omega
  rw [e2]
  show (P (64 - m) * (P (m - 1) - 1) + (P (64 - m) - 1)) / P (64 - m) = _
  rw [Int.mul_add_ediv_left _ _ (by omega), Int.ediv_eq_zero_of_lt (by omega) (by omega)]
  omega
def clp (m : Nat) (v : Int) : Int := btw v (-P (m - 1)) (P (m - 1) - 1)
theorem clamp_f (v n : Int) : cast_Clamp.f v n = some (clp (wd n) v) := by
  have h := wd_bd n
  have hp := P_pos (wd n - 1)
  unfold cast_Clamp.f
  rw [spare_eq, Option.bind_some, if_pos (by omega), shr_lo h.1 h.2, shr_hi h.1 h.2, between_f, Option.bind_some,
    show min (-P (wd n - 1)) (P (wd n - 1) - 1) = -P (wd n - 1) from by omega, show max (-P (wd n - 1)) (P (wd n - 1) - 1) = P (wd n - 1) - 1 from by omega]
  rfl

/-! Halves. -/
theorem nat_add_bits : ∀ (a b : Nat), a + b = 2 * (a &&& b) + (a ^^^ b) := by
  intro a
  induction a using Nat.strongRecOn with
  | _ a ih =>
    intro b
    rcases Nat.eq_zero_or_pos a with rfl | ha
    · simp
    · have h := ih (a / 2) (by omega) (b / 2)
      have e1 : (a &&& b) / 2 = a / 2 &&& b / 2 := Nat.and_div_two
      have e2 : (a ^^^ b) / 2 = a / 2 ^^^ b / 2 := Nat.xor_div_two
      have e3 : (a &&& b) % 2 = a % 2 &&& b % 2 := by have := @Nat.and_mod_two_pow a b 1; simpa using this
      have e4 : (a ^^^ b) % 2 = a % 2 ^^^ b % 2 := by have := @Nat.xor_mod_two_pow a b 1; simpa using this
      rw [← e1, ← e2] at h
      generalize (a &&& b) = x at *
      generalize (a ^^^ b) = y at *
      rcases Nat.mod_two_eq_zero_or_one a with h1 | h1 <;> rcases Nat.mod_two_eq_zero_or_one b with h2 | h2 <;> rw [h1, h2] at e3 e4
      · change x % 2 = 0 at e3; change y % 2 = 0 at e4; omega
      · change x % 2 = 0 at e3; change y % 2 = 1 at e4; omega
      · change x % 2 = 0 at e3; change y % 2 = 1 at e4; omega
      · change x % 2 = 1 at e3; change y % 2 = 0 at e4; omega

theorem ofInt_nat (v : Int) : (BitVec.ofInt 64 v).toNat = (v % 18446744073709551616).toNat := by
  rw [BitVec.toNat_ofInt]
  rfl
theorem swrap_lo {x : Nat} (h : x / 9223372036854775808 = 0) : IntKind.i64.wrap (x : Int) = (x : Int) := by rw [IntKind.wrap_i64]; omega
theorem swrap_hi {x : Nat} (h : x / 9223372036854775808 = 1) : IntKind.i64.wrap (x : Int) = (x : Int) - 18446744073709551616 := by rw [IntKind.wrap_i64]; omega
theorem nat_lo {a : Int} (h0 : 0 ≤ a) (h1 : a < 9223372036854775808) : ((a % 18446744073709551616).toNat : Int) = a ∧ (a % 18446744073709551616).toNat / 9223372036854775808 = 0 := by omega
theorem nat_hi {a : Int} (h0 : a < 0) (h1 : -9223372036854775808 ≤ a) : ((a % 18446744073709551616).toNat : Int) = a + 18446744073709551616 ∧ (a % 18446744073709551616).toNat / 9223372036854775808 = 1 := by omega
theorem half_sum {X Y a b : Int} (h : a + b = 2 * X + Y) (h0 : -18446744073709551616 ≤ a + b) (h1 : a + b < 18446744073709551616) : wrap64 (X + Y / 2) = (a + b) / 2 := by
  have e : X + Y / 2 = (a + b) / 2 := by omega
  rw [e, w64 (by omega) (by omega)]
theorem half_nat (A B X Y : Nat) (a b : Int) (hs : A + B = 2 * X + Y) (hx : X / 9223372036854775808 = A / 9223372036854775808 &&& B / 9223372036854775808) (hy : Y / 9223372036854775808 = A / 9223372036854775808 ^^^ B / 9223372036854775808)
    (ha : -9223372036854775808 ≤ a ∧ a < 9223372036854775808) (hb : -9223372036854775808 ≤ b ∧ b < 9223372036854775808) (hA : A = (a % 18446744073709551616).toNat) (hB : B = (b % 18446744073709551616).toNat) :
    wrap64 (IntKind.i64.wrap (X : Int) + IntKind.i64.wrap (Y : Int) / 2) = (a + b) / 2 := by
  have hs' : (A : Int) + (B : Int) = 2 * (X : Int) + (Y : Int) := by omega
  have b0 : -18446744073709551616 ≤ a + b := by omega
  have b1 : a + b < 18446744073709551616 := by omega
  by_cases h1 : 0 ≤ a
  · obtain ⟨a1, a2⟩ := nat_lo h1 ha.2
    rw [← hA] at a1 a2
    by_cases h2 : 0 ≤ b
    · obtain ⟨c1, c2⟩ := nat_lo h2 hb.2
      rw [← hB] at c1 c2
      rw [a2, c2] at hx hy
      rw [swrap_lo hx, swrap_lo hy]
      exact half_sum (by rw [← a1, ← c1]; exact hs') b0 b1
    · obtain ⟨c1, c2⟩ := nat_hi (by omega) hb.1
      rw [← hB] at c1 c2
      rw [a2, c2] at hx hy
      rw [swrap_lo hx, swrap_hi hy]
      refine half_sum ?_ b0 b1
      clear hA hB hx hy a2 c2 hs
      omega
  · obtain ⟨a1, a2⟩ := nat_hi (by omega) ha.1
    rw [← hA] at a1 a2
    by_cases h2 : 0 ≤ b
    · obtain ⟨c1, c2⟩ := nat_lo h2 hb.2
      rw [← hB] at c1 c2
      rw [a2, c2] at hx hy
      rw [swrap_lo hx, swrap_hi hy]
      refine half_sum ?_ b0 b1
      clear hA hB hx hy a2 c2 hs
      omega
    · obtain ⟨c1, c2⟩ := nat_hi (by omega) hb.1
      rw [← hB] at c1 c2
      rw [a2, c2] at hx hy
      rw [swrap_hi hx, swrap_lo hy]
      refine half_sum ?_ b0 b1
      clear hA hB hx hy a2 c2 hs
      omega
theorem pow63 : (2 : Nat) ^ 63 = 9223372036854775808 := by decide
theorem half_f {a b : Int} (ha : -9223372036854775808 ≤ a ∧ a < 9223372036854775808) (hb : -9223372036854775808 ≤ b ∧ b < 9223372036854775808) : cast_Half.f a b = some ((a + b) / 2) := by
  have e1 : Go.bits .and .i64 a b = IntKind.i64.wrap (((a % 18446744073709551616).toNat &&& (b % 18446744073709551616).toNat : Nat) : Int) := by
    show IntKind.i64.wrap ((BitVec.ofInt 64 a &&& BitVec.ofInt 64 b).toNat : Int) = _
    rw [BitVec.toNat_and, ofInt_nat, ofInt_nat]
  have e2 : Go.bits .xor .i64 a b = IntKind.i64.wrap (((a % 18446744073709551616).toNat ^^^ (b % 18446744073709551616).toNat : Nat) : Int) := by
    show IntKind.i64.wrap ((BitVec.ofInt 64 a ^^^ BitVec.ofInt 64 b).toNat : Int) = _
    rw [BitVec.toNat_xor, ofInt_nat, ofInt_nat]
  unfold cast_Half.f
  rw [e1, e2]
  refine congrArg some ?_
  refine half_nat _ _ _ _ a b (nat_add_bits _ _) ?_ ?_ ha hb rfl rfl
  · rw [← pow63]; exact Nat.and_div_two_pow
  · rw [← pow63]; exact Nat.xor_div_two_pow

/-! Zig, zag. -/
def zig (v : Int) : Int := if 0 ≤ v then 2 * v else -2 * v - 1
def zag (u : Int) : Int := if u % 2 = 0 then u / 2 else -(u / 2) - 1
theorem xor_ones (x : Nat) (h : x < 18446744073709551616) : x ^^^ 18446744073709551615 = 18446744073709551615 - x := by
  have h1 : (BitVec.ofNat 64 x ^^^ BitVec.allOnes 64).toNat = (~~~ BitVec.ofNat 64 x).toNat := by rw [BitVec.xor_allOnes]
  rw [BitVec.toNat_xor, BitVec.toNat_not, BitVec.toNat_ofNat, Nat.mod_eq_of_lt (by omega)] at h1
  exact h1
theorem zig_f {v : Int} (h : -9223372036854775808 ≤ v ∧ v < 9223372036854775808) : cast_Zig.f v = some (zig v) := by
  unfold cast_Zig.f zig
  congr 1
  rw [u64_eq, u64_eq, u64_eq]
  by_cases h0 : 0 ≤ v
  · rw [show v / 9223372036854775808 = 0 from by omega, if_pos h0, u64_xor _ _ (by omega) (by omega) (by omega) (by omega)]
    simp
    omega
  · rw [show v / 9223372036854775808 = -1 from by omega, if_neg h0, u64_xor _ _ (by omega) (by omega) (by omega) (by omega),
      show ((-1 : Int) % 18446744073709551616).toNat = 18446744073709551615 from by decide, xor_ones _ (by omega)]
    omega
theorem i64_xor_zero {x : Int} (h0 : 0 ≤ x) (h1 : x < 9223372036854775808) : Go.bits .xor .i64 x 0 = x := by
  show IntKind.i64.wrap ((BitVec.ofInt 64 x ^^^ BitVec.ofInt 64 0).toNat : Int) = _
  rw [BitVec.toNat_xor, ofInt_nat, ofInt_nat, IntKind.wrap_i64]
  simp
  omega
theorem i64_xor_ones {x : Int} (h0 : 0 ≤ x) (h1 : x < 9223372036854775808) : Go.bits .xor .i64 x (-1) = -x - 1 := by
  show IntKind.i64.wrap ((BitVec.ofInt 64 x ^^^ BitVec.ofInt 64 (-1)).toNat : Int) = _
  rw [BitVec.toNat_xor, ofInt_nat, ofInt_nat, IntKind.wrap_i64, show ((-1 : Int) % 18446744073709551616).toNat = 18446744073709551615 from by decide, xor_ones _ (by omega)]
  omega
theorem zag_f {u : Int} (h : 0 ≤ u ∧ u < 18446744073709551616) : cast_Zag.f u = some (zag u) := by
  have e : Go.bits .and .u64 u 1 = u % 2 := by
    rw [u64_and u 1 h.1 h.2 (by omega) (by omega), show (1 : Int).toNat = 1 from rfl, nat_mask1]
    omega
  unfold cast_Zag.f zag
  congr 1
  rw [e, w64 (x := u / 2) (by omega) (by omega), w64 (x := u % 2) (by omega) (by omega), w64 (x := -(u % 2)) (by omega) (by omega)]
  by_cases h0 : u % 2 = 0
  · rw [if_pos h0, h0, show -(0 : Int) = 0 from rfl, i64_xor_zero (by omega) (by omega)]
  · rw [if_neg h0, show u % 2 = 1 from by omega, i64_xor_ones (by omega) (by omega)]

/-! Aligned. -/
def sh (n : Int) : Nat := (min (max n 0) 63).toNat
theorem sh_le (n : Int) : sh n ≤ 63 := by unfold sh; omega
theorem mnmx (n : Int) : mn (mx n 0) 63 = (sh n : Int) := by
  unfold mn mx sh
  split <;> split <;> omega
/-- The least multiple of a power of two that is not below v. -/
def up (p v : Int) : Int := (v + p - 1) / p * p
theorem align_f {v n : Int} (h : 0 ≤ v ∧ v < 18446744073709551616) :
    cast_Align.f v n = some (if v + P (sh n) - 1 < 18446744073709551616 then (up (P (sh n)) v, true) else (0, false)) := by
  have hs := sh_le n
  have hp := P_pos (sh n)
  have hp2 : P (sh n) ≤ 9223372036854775808 := by rw [← P_63]; exact P_mono hs
  have ed : (IntKind.u64.wrap ((IntKind.u64.wrap (2 ^ (sh n))) - 1)) = P (sh n) - 1 := by
    show IntKind.u64.wrap (IntKind.u64.wrap (P (sh n)) - 1) = _
    rw [u64_eq, u64_eq]
    omega
  unfold cast_Align.f bits_Add64.f
  rw [mnmx, Int.toNat_natCast, ed, if_pos (by omega), Option.bind_some]
  by_cases hc : v + P (sh n) - 1 < 18446744073709551616
  · rw [if_pos hc, if_neg (by omega), show (v + (P (sh n) - 1) + 0) % 18446744073709551616 = v + P (sh n) - 1 from by omega]
    rw [u64_andNot _ _ (by omega) (by omega) (by omega) (by omega)]
    have hpn := P_nat (sh n)
    have e1 : 18446744073709551615 - (P (sh n) - 1).toNat = 2 ^ 64 - 2 ^ (sh n) := by
      have : (P (sh n)).toNat = 2 ^ (sh n) := by rw [hpn]; rfl
      omega
    rw [e1, nat_midmask 64 (sh n) _ (by omega), Nat.mod_eq_of_lt (by omega)]
    congr 2
    unfold up
    rw [Int.natCast_mul, Int.natCast_ediv, ← hpn]
    congr 2
    omega
  · rw [if_neg hc, if_pos (by omega)]

theorem alive_f : rotuletlaw02_alive.f = some true := by
  unfold rotuletlaw02_alive.f
  have e : sh 3 = 3 := rfl
  rw [align_f (by omega), e, show P 3 = 8 from by decide, if_pos (by omega), Option.bind_some, if_pos rfl, if_pos (by decide), wrap_f, Option.bind_some, if_pos (by decide), zig_f (by omega), Option.bind_some,
    if_pos (by decide), half_f (by omega) (by omega), Option.bind_some]
  decide

/-! The logarithm. -/
theorem log_f {k : Nat} {v : Int} (h0 : 0 < v) (h1 : v < 18446744073709551616) : ∃ r : Nat, r < 64 ∧ cast_Log.f k v = some ((r : Int), true) ∧ P r ≤ v ∧ v < P (r + 1) := by
  have hb := Lib.bitLenAux_bounds 64 v.toNat (by omega) (by omega)
  have hle : Lib.bitLen v.toNat ≤ 64 := Lib.bitLen_le v.toNat 64 (by omega) (by omega)
  change 1 ≤ Lib.bitLen v.toNat ∧ 2 ^ (Lib.bitLen v.toNat - 1) ≤ v.toNat ∧ v.toNat < 2 ^ Lib.bitLen v.toNat at hb
  obtain ⟨b1, b2, b3⟩ := hb
  refine ⟨Lib.bitLen v.toNat - 1, by omega, ?_, ?_, ?_⟩
  · unfold cast_Log.f bits_Len64.f
    rw [if_neg (by omega), if_pos (by omega), Option.bind_some, w64 (by omega) (by omega)]
    congr 2
    omega
  · rw [P_nat]; omega
  · rw [P_nat, show Lib.bitLen v.toNat - 1 + 1 = Lib.bitLen v.toNat from by omega]; omega
theorem log_zero {k : Nat} : cast_Log.f k 0 = some (0, false) := by
  unfold cast_Log.f
  rw [if_pos rfl]

end Go.Proofs.Ytjenbokdcbppoaa.Pure
