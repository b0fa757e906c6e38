/- Proved: for all numbers and any width, the law CastTells answers true. -/
import Derived.Test.YtjenbokdcbppoaaFnLCastTells
import Derived.Test.YtjenbokdcbppoaaNum
namespace Go.Proofs.Ytjenbokdcbppoaa.Pure
open Go.RowKit Go.Proofs.Ytjenbokdcbppoaa.Fn Go.Proofs.YtjenbokdcbppoaaW.PrintWords Go.Proofs.YtjenbokdcbppoaaW.PrintLast Go.Proofs.YtjenbokdcbppoaaW.PrintMore

theorem width_f (n : Int) : rotuletref02_width.f n = some (wd n : Int) := by
  unfold rotuletref02_width.f wd mn mx
  congr 1
  split <;> split <;> omega
theorem P_lim {m : Nat} (h : m ≤ 63) : P m ≤ 9223372036854775808 := by rw [← P_63]; exact P_mono h

theorem power_l0 (n : Nat) (hn : n ≤ 63) (d : Nat) : ∀ (k j : Nat), j + d = n → d < k → rotuletref02_power.l0 k (n : Int) (P j) (j : Int) = some (P n) := by
  induction d with
  | zero =>
    intro k j hj hk
    obtain ⟨k, rfl⟩ : ∃ m, k = m + 1 := ⟨k - 1, by omega⟩
    unfold rotuletref02_power.l0
    rw [if_neg (by omega), show j = n from by omega]
  | succ d ih =>
    intro k j hj hk
    obtain ⟨k, rfl⟩ : ∃ m, k = m + 1 := ⟨k - 1, by omega⟩
    have h1 := P_lim (show j ≤ 63 by omega)
    have h2 := P_pos j
    have h3 := P_lim (show j + 1 ≤ 63 by omega)
    rw [P_succ] at h3
    unfold rotuletref02_power.l0
    rw [if_pos (by omega), u64_eq, Int.emod_eq_of_lt (by omega) (by omega), ← P_succ, w64 (by omega) (by omega), show (j : Int) + 1 = ((j + 1 : Nat) : Int) from by omega]
    exact ih k (j + 1) (by omega) (by omega)
theorem power_f {k n : Nat} (hn : n ≤ 63) (hk : n < k) : rotuletref02_power.f k (n : Int) = some (P n) := power_l0 n hn n k 0 (by omega) hk

theorem top_l0 (n : Int) (d : Nat) : ∀ (k j : Nat), 1 ≤ j → j + d = wd n → d < k → rotuletref02_Top.l0 k n (P (j - 1) - 1) (j : Int) = some (P (wd n - 1) - 1) := by
  have hw := wd_bd n
  induction d with
  | zero =>
    intro k j h1 hj hk
    obtain ⟨k, rfl⟩ : ∃ m, k = m + 1 := ⟨k - 1, by omega⟩
    unfold rotuletref02_Top.l0
    rw [width_f, Option.bind_some, if_neg (by omega), show j = wd n from by omega]
  | succ d ih =>
    intro k j h1 hj hk
    obtain ⟨k, rfl⟩ : ∃ m, k = m + 1 := ⟨k - 1, by omega⟩
    have h2 := P_pos (j - 1)
    have h3 := P_lim (show j ≤ 63 by omega)
    have h4 := P_half h1
    unfold rotuletref02_Top.l0
    rw [width_f, Option.bind_some, if_pos (by omega), w64 (x := 2 * (P (j - 1) - 1)) (by omega) (by omega), w64 (x := 2 * (P (j - 1) - 1) + 1) (by omega) (by omega), w64 (by omega) (by omega),
      show (j : Int) + 1 = ((j + 1 : Nat) : Int) from by omega, show 2 * (P (j - 1) - 1) + 1 = P (j + 1 - 1) - 1 from by rw [Nat.add_sub_cancel]; omega]
    exact ih k (j + 1) (by omega) (by omega) (by omega)
theorem top_f {k : Nat} (n : Int) (hk : 64 < k) : rotuletref02_Top.f k n = some (P (wd n - 1) - 1) := by
  have hw := wd_bd n
  exact top_l0 n (wd n - 1) k 1 (by omega) (by omega) (by omega)
theorem low_f {k : Nat} (n : Int) (hk : 64 < k) : rotuletref02_Low.f k n = some (-P (wd n - 1)) := by
  have hw := wd_bd n
  have h2 := P_pos (wd n - 1)
  have h3 := P_lim (show wd n - 1 ≤ 63 by omega)
  unfold rotuletref02_Low.f
  rw [top_f n hk, Option.bind_some, w64 (x := -(P (wd n - 1) - 1)) (by omega) (by omega), w64 (by omega) (by omega)]
  congr 1
  omega

theorem fit_iff {m : Nat} (h : 1 ≤ m) (v : Int) : W m v = v ↔ (-P (m - 1) ≤ v ∧ v < P (m - 1)) := by
  constructor
  · intro e
    have := W_bd h v
    omega
  · exact fun h' => W_fix h h'.1 h'.2
theorem ref_fits {k : Nat} (v n : Int) (hk : 64 < k) : rotuletref02_Fits.f k v n = some (W (wd n) v == v) := by
  have h := (wd_bd n).1
  have hi := fit_iff h v
  unfold rotuletref02_Fits.f
  rw [low_f n hk, Option.bind_some]
  by_cases h1 : v ≥ -P (wd n - 1)
  · rw [if_pos h1, top_f n hk, Option.bind_some]
    congr 1
    rw [Bool.eq_iff_iff, decide_eq_true_iff, beq_iff_eq, hi]
    omega
  · rw [if_neg h1]
    congr 1
    rw [eq_comm, beq_eq_false_iff_ne]
    intro e
    have := hi.1 e
    omega
theorem ref_clamp {k : Nat} (v n : Int) (hk : 64 < k) : rotuletref02_Clamp.f k v n = some (clp (wd n) v) := by
  have hp := P_pos (wd n - 1)
  unfold rotuletref02_Clamp.f
  rw [low_f n hk, Option.bind_some, top_f n hk, Option.bind_some]
  congr 1
  unfold clp btw mn mx
  repeat' split
  all_goals omega
theorem ref_narrow {k : Nat} {v n : Int} (hv : 0 ≤ v ∧ v < 18446744073709551616) (hk : 64 < k) : rotuletref02_Narrow.f k v n = some (v % P (wd n), (v % P (wd n)) == v) := by
  have h := wd_bd n
  unfold rotuletref02_Narrow.f
  rw [width_f, Option.bind_some]
  by_cases h1 : (wd n : Int) = 64
  · have e : wd n = 64 := by omega
    rw [if_pos h1, e, P_64, Int.emod_eq_of_lt hv.1 hv.2]
    simp
  · have hp := P_pos (wd n)
    rw [if_neg h1, Option.bind_some, power_f (by omega) (by omega), Option.bind_some, if_neg (by omega), tmod_in hv.1]
theorem ref_signed {v : Int} (hv : 0 ≤ v ∧ v < 18446744073709551616) : rotuletref02_Signed.f v = cast_Signed.f v := by
  unfold rotuletref02_Signed.f cast_Signed.f
  rw [w64_eq]
  by_cases h : v > 9223372036854775807
  · rw [if_pos h, if_pos (by omega)]
  · rw [if_neg h, if_neg (by omega)]

/-- The highest j of m bits, as a number with a sign. -/
def hiW (m : Nat) (u : Int) (i : Nat) : Int := (u % P m) / P i - (if P (m - 1) ≤ u % P m then P (m - i) else 0)
theorem W_hi {m : Nat} (h : 1 ≤ m) (u : Int) : hiW m u 0 = W m u := by
  unfold hiW W
  have h1 := P_half h
  have h2 := Int.emod_nonneg u (show P m ≠ 0 by have := P_pos m; omega)
  have h3 := Int.emod_lt_of_pos u (P_pos m)
  have h4 : (u + P (m - 1)) % P m = (u % P m + P (m - 1)) % P m := by rw [Int.emod_add_emod]
  rw [h4, show P 0 = 1 from rfl, Int.ediv_one, Nat.sub_zero]
  generalize u % P m = x at *
  by_cases hx : P (m - 1) ≤ x
  · rw [if_pos hx, show x + P (m - 1) = (x - P (m - 1)) + P m from by omega, Int.add_emod_right, Int.emod_eq_of_lt (by omega) (by omega)]
    omega
  · rw [if_neg hx, Int.emod_eq_of_lt (by omega) (by omega)]
    omega

theorem bit_step (x : Int) (i : Nat) : x / P i = 2 * (x / P (i + 1)) + (x / P i) % 2 := by
  have e : x / P (i + 1) = x / P i / 2 := by
    rw [P_succ, Int.mul_comm, ← Int.ediv_ediv_of_nonneg (Int.le_of_lt (P_pos i))]
  rw [e]
  omega

theorem ref_wrap_l0 (n v : Int) (hv : 0 ≤ v ∧ v < 18446744073709551616) : ∀ (j k : Nat) (x : Int), j ≤ wd n → 70 + j < k → x = (if j = wd n then 0 else hiW (wd n) v j) →
    rotuletref02_Wrap.l0 k n v x ((j : Int) - 1) = some (W (wd n) v) := by
  have hw := wd_bd n
  intro j
  induction j with
  | zero =>
    intro k x hj hk hx
    obtain ⟨k, rfl⟩ : ∃ m, k = m + 1 := ⟨k - 1, by omega⟩
    unfold rotuletref02_Wrap.l0
    rw [if_neg (by omega), hx, if_neg (by omega), W_hi hw.1]
  | succ j ih =>
    intro k x hj hk hx
    obtain ⟨k, rfl⟩ : ∃ m, k = m + 1 := ⟨k - 1, by omega⟩
    have hpj := P_pos j
    have hq0 : 0 ≤ v / P j := Int.ediv_nonneg hv.1 (by omega)
    have hq1 : v / P j < 18446744073709551616 := Int.lt_of_le_of_lt (Int.ediv_le_self _ hv.1) hv.2
    -- bit j of v is that of v % P m
    have hm0 := Int.emod_nonneg v (show P (wd n) ≠ 0 by have := P_pos (wd n); omega)
    have hm1 := Int.emod_lt_of_pos v (P_pos (wd n))
    have ebit : (v / P j) % 2 = (v % P (wd n) / P j) % 2 := by
      have e1 := Int.emod_def v (P (wd n))
      have e2 : P (wd n) = P j * (2 * P (wd n - j - 1)) := by rw [← P_succ, ← P_add]; congr 1; omega
      have e3 : v = P j * (2 * P (wd n - j - 1) * (v / P (wd n))) + v % P (wd n) := by
        rw [← Int.mul_assoc, ← e2]; omega
      have e4 : v / P j = 2 * P (wd n - j - 1) * (v / P (wd n)) + v % P (wd n) / P j := by
        conv => lhs; rw [e3]
        exact Int.mul_add_ediv_left _ _ (by omega)
      rw [e4, Int.mul_assoc]
      omega
    have hs := bit_step (v % P (wd n)) j
    have hb : 0 ≤ (v % P (wd n) / P j) % 2 ∧ (v % P (wd n) / P j) % 2 ≤ 1 := by omega
    have hd0 : 0 ≤ v % P (wd n) / P (j + 1) := Int.ediv_nonneg hm0 (Int.le_of_lt (P_pos _))
    have hPh := P_half hw.1
    unfold rotuletref02_Wrap.l0
    rw [show ((j + 1 : Nat) : Int) - 1 = (j : Int) from by omega, if_pos (by omega), power_f (by omega) (by omega), Option.bind_some, if_neg (by omega), width_f, Option.bind_some, tdiv_in hv.1,
      u64_eq (v / P j), Int.emod_eq_of_lt hq0 hq1, tmod_in hq0, ebit, w64 (x := v % P (wd n) / P j % 2) (by omega) (by omega), w64 (x := (wd n : Int) - 1) (by omega) (by omega), w64 (x := (j : Int) - 1) (by omega) (by omega)]
    by_cases hl : (j : Int) = (wd n : Int) - 1
    · have ej : j = wd n - 1 := by omega
      rw [if_pos hl]
      refine ih k _ (by omega) (by omega) ?_
      rw [if_neg (by omega), hx, if_pos (by omega), show (2 : Int) * 0 = 0 from rfl, w64 (x := 0) (by omega) (by omega), w64 (by omega) (by omega)]
      unfold hiW
      rw [show wd n - j = 1 from by omega, show P 1 = 2 from rfl]
      rw [ej] at *
      by_cases hx1 : P (wd n - 1) ≤ v % P (wd n)
      · have eq1 : v % P (wd n) / P (wd n - 1) = 1 := by
          rw [show v % P (wd n) = P (wd n - 1) * 1 + (v % P (wd n) - P (wd n - 1)) from by omega, Int.mul_add_ediv_left _ _ (by omega), Int.ediv_eq_zero_of_lt (by omega) (by omega)]
          rfl
        rw [if_pos hx1, eq1]
        decide
      · have eq0 : v % P (wd n) / P (wd n - 1) = 0 := Int.ediv_eq_zero_of_lt hm0 (by omega)
        rw [if_neg hx1, eq0]
        decide
    · rw [if_neg hl]
      have hd1 : v % P (wd n) / P (j + 1) < P (wd n - j - 1) := by
        refine Int.ediv_lt_of_lt_mul (P_pos _) ?_
        rw [← P_add, show wd n - j - 1 + (j + 1) = wd n from by omega]
        exact hm1
      have hlim := P_lim (show wd n - j - 1 ≤ 63 by omega)
      have hlim2 := P_lim (show wd n - j - 1 - 1 ≤ 63 by omega)
      have hPd := P_half (show 1 ≤ wd n - j - 1 by omega)
      refine ih k _ (by omega) (by omega) ?_
      rw [if_neg (by omega), hx, if_neg (by omega)]
      unfold hiW
      rw [show wd n - (j + 1) = wd n - j - 1 from by omega, show P (wd n - j) = 2 * P (wd n - j - 1) from P_half (by omega)]
      by_cases hx1 : P (wd n - 1) ≤ v % P (wd n)
      · have hlow : P (wd n - j - 1 - 1) ≤ v % P (wd n) / P (j + 1) := by
          refine Int.le_ediv_of_mul_le (P_pos _) ?_
          rw [← P_add, show wd n - j - 1 - 1 + (j + 1) = wd n - 1 from by omega]
          exact hx1
        rw [if_pos hx1, if_pos hx1]
        generalize v % P (wd n) / P (j + 1) = y at *
        generalize v % P (wd n) / P j = z at *
        rw [w64 (x := 2 * (y - P (wd n - j - 1))) (by omega) (by omega), w64 (by omega) (by omega)]
        omega
      · have hhi : v % P (wd n) / P (j + 1) < P (wd n - j - 1 - 1) := by
          refine Int.ediv_lt_of_lt_mul (P_pos _) ?_
          rw [← P_add, show wd n - j - 1 - 1 + (j + 1) = wd n - 1 from by omega]
          omega
        rw [if_neg hx1, if_neg hx1]
        generalize v % P (wd n) / P (j + 1) = y at *
        generalize v % P (wd n) / P j = z at *
        rw [w64 (x := 2 * (y - 0)) (by omega) (by omega), w64 (by omega) (by omega)]
        omega
theorem ref_wrap {k : Nat} {v n : Int} (hk : 200 < k) : rotuletref02_Wrap.f k v n = some (W (wd n) v) := by
  have hw := wd_bd n
  unfold rotuletref02_Wrap.f
  rw [width_f, Option.bind_some, w64 (by omega) (by omega)]
  have hu : 0 ≤ IntKind.u64.wrap v ∧ IntKind.u64.wrap v < 18446744073709551616 := by rw [u64_eq]; omega
  rw [ref_wrap_l0 n _ hu (wd n) k 0 (by omega) (by omega) (by rw [if_pos rfl])]
  congr 1
  refine W_congr (Int.dvd_trans (P_dvd hw.2) ⟨-(v / 18446744073709551616), ?_⟩)
  rw [u64_eq]
  omega

theorem ref_log_l0 : ∀ (r k : Nat) (v : Int) (j : Int), r < k → P r ≤ v → v < P (r + 1) → v < 18446744073709551616 → 0 ≤ j → j + (r : Int) < 100 → rotuletref02_Log.l0 k v j = some (j + (r : Int), true) := by
  intro r
  induction r with
  | zero =>
    intro k v j hk h0 h1 _ h2 h3
    obtain ⟨k, rfl⟩ : ∃ m, k = m + 1 := ⟨k - 1, by omega⟩
    have : P 0 = 1 := rfl
    have : P (0 + 1) = 2 := rfl
    unfold rotuletref02_Log.l0
    rw [if_neg (by omega)]
    simp
  | succ r ih =>
    intro k v j hk h0 h1 hv h2 h3
    obtain ⟨k, rfl⟩ : ∃ m, k = m + 1 := ⟨k - 1, by omega⟩
    have hp := P_pos r
    rw [P_succ] at h0
    rw [P_succ, P_succ] at h1
    unfold rotuletref02_Log.l0
    rw [if_pos (by omega), tdiv_in (by omega), u64_eq, Int.emod_eq_of_lt (by omega) (by omega), w64 (by omega) (by omega), ih k (v / 2) (j + 1) (by omega) (by omega) (by rw [P_succ]; omega) (by omega) (by omega) (by omega)]
    congr 2
    omega
theorem ref_log {k : Nat} {v : Int} (hv : 0 ≤ v ∧ v < 18446744073709551616) (hk : 100 < k) : rotuletref02_Log.f k v = cast_Log.f k v := by
  unfold rotuletref02_Log.f
  by_cases h : v = 0
  · subst h
    rw [if_pos rfl, log_zero]
  · obtain ⟨r, hr, hl, h1, h2⟩ := log_f (k := k) (show 0 < v by omega) hv.2
    rw [if_neg h, hl, ref_log_l0 r k v 0 (by omega) h1 h2 hv.2 (by omega) (by omega), Int.zero_add]

theorem ref_align {k : Nat} {v n : Int} (hv : 0 ≤ v ∧ v < 18446744073709551616) (hk : 64 < k) : rotuletref02_Align.f k v n = cast_Align.f v n := by
  have hs := sh_le n
  have hp := P_pos (sh n)
  have hp2 := P_lim hs
  unfold rotuletref02_Align.f
  rw [mnmx, power_f hs (by omega), Option.bind_some, if_neg (by omega), tmod_in hv.1, align_f hv]
  obtain ⟨q, hq⟩ := P_dvd (show sh n ≤ 64 by omega)
  have e0 := Int.emod_def v (P (sh n))
  have e1 := Int.emod_nonneg v (show P (sh n) ≠ 0 by omega)
  have e2 := Int.emod_lt_of_pos v hp
  have hupper : up (P (sh n)) v = if v % P (sh n) = 0 then v else v - v % P (sh n) + P (sh n) := by
    unfold up
    by_cases hz : v % P (sh n) = 0
    · rw [if_pos hz, show v + P (sh n) - 1 = P (sh n) * (v / P (sh n)) + (P (sh n) - 1) from by omega, Int.mul_add_ediv_left _ _ (by omega), Int.ediv_eq_zero_of_lt (show 0 ≤ P (sh n) - 1 by omega) (show P (sh n) - 1 < P (sh n) by omega),
        Int.add_zero, Int.mul_comm]
      omega
    · rw [if_neg hz, show v + P (sh n) - 1 = P (sh n) * (v / P (sh n) + 1) + (v % P (sh n) - 1) from by rw [Int.mul_add]; omega, Int.mul_add_ediv_left _ _ (by omega),
        Int.ediv_eq_zero_of_lt (show 0 ≤ v % P (sh n) - 1 by omega) (show v % P (sh n) - 1 < P (sh n) by omega), Int.add_zero, Int.mul_comm, Int.mul_add]
      omega
  -- a multiple below 2^64 leaves room for one more, or is the last
  have hroom : v - v % P (sh n) + P (sh n) ≤ 18446744073709551616 := by
    have h3 : P (sh n) * (v / P (sh n)) < P (sh n) * q := by omega
    have h4 : v / P (sh n) < q := Int.lt_of_mul_lt_mul_left h3 (Int.le_of_lt hp)
    have h5 : P (sh n) * (v / P (sh n) + 1) ≤ P (sh n) * q := Int.mul_le_mul_of_nonneg_left (by omega) (Int.le_of_lt hp)
    rw [Int.mul_add, Int.mul_one, ← hq] at h5
    omega
  have e3 : 0 ≤ P (sh n) * (v / P (sh n)) := Int.mul_nonneg (by omega) (Int.ediv_nonneg hv.1 (by omega))
  have n1 : (v - v % P (sh n)) % 18446744073709551616 = v - v % P (sh n) := Int.emod_eq_of_lt (by omega) (by omega)
  have n2 : (18446744073709551615 - P (sh n)) % 18446744073709551616 = 18446744073709551615 - P (sh n) := Int.emod_eq_of_lt (by omega) (by omega)
  rw [u64_eq (v - v % P (sh n)), n1, u64_eq (18446744073709551615 - P (sh n)), n2]
  by_cases hz : v % P (sh n) = 0
  · rw [if_pos hz, if_pos (by omega), hupper, if_pos hz]
  · rw [if_neg hz]
    by_cases hc : v - v % P (sh n) > 18446744073709551615 - P (sh n)
    · rw [if_pos hc, if_neg (by omega)]
    · have n3 : (v - v % P (sh n) + P (sh n)) % 18446744073709551616 = v - v % P (sh n) + P (sh n) := Int.emod_eq_of_lt (by omega) (by omega)
      have h6 : P (sh n) * (v / P (sh n) + 1) < P (sh n) * q := by rw [Int.mul_add, Int.mul_one, ← hq]; omega
      have h7 : v / P (sh n) + 1 < q := Int.lt_of_mul_lt_mul_left h6 (Int.le_of_lt hp)
      have h8 : P (sh n) * (v / P (sh n) + 2) ≤ P (sh n) * q := Int.mul_le_mul_of_nonneg_left (by omega) (Int.le_of_lt hp)
      rw [Int.mul_add, ← hq] at h8
      rw [if_neg hc, if_pos (by omega), hupper, if_neg hz, u64_eq, n3]

theorem ref_zig {v : Int} (h : -9223372036854775808 ≤ v ∧ v < 9223372036854775808) : rotuletref02_Zig.f v = some (zig v) := by
  unfold rotuletref02_Zig.f zig
  by_cases h0 : v ≥ 0
  · rw [if_pos h0, if_pos h0, u64_eq v, u64_eq]
    congr 1
    omega
  · rw [if_neg h0, if_neg h0, w64 (x := v + 1) (by omega) (by omega), w64 (x := -(v + 1)) (by omega) (by omega), u64_eq (-(v + 1)), u64_eq (2 * _), u64_eq]
    congr 1
    omega
theorem ref_zag {u : Int} (h : 0 ≤ u ∧ u < 18446744073709551616) : rotuletref02_Zag.f u = some (zag u) := by
  unfold rotuletref02_Zag.f zag
  rw [tmod_in h.1, tdiv_in h.1, u64_eq, show u / 2 % 18446744073709551616 = u / 2 from by omega, w64 (x := u / 2) (by omega) (by omega), w64 (x := -(u / 2)) (by omega) (by omega), w64 (by omega) (by omega)]
  split <;> rfl
theorem tmod2 (a : Int) : a.tmod 2 = if 0 ≤ a then a % 2 else -((-a) % 2) := by
  split
  · next h => exact tmod_in h 2
  · next h =>
    have := Int.neg_tmod (-a) 2
    rw [Int.neg_neg] at this
    rw [this, tmod_in (by omega)]
theorem odd_f (a : Int) : rotuletref02_odd.f a = some (a % 2) := by
  unfold rotuletref02_odd.f
  have ht := tmod2 a
  have h : a.tmod 2 = 0 ∧ a % 2 = 0 ∨ a.tmod 2 = 1 ∧ a % 2 = 1 ∨ a.tmod 2 = -1 ∧ a % 2 = 1 := by
    rw [ht]
    split <;> omega
  congr 1
  rcases h with ⟨h1, h2⟩ | ⟨h1, h2⟩ | ⟨h1, h2⟩ <;> rw [h1, h2, w64 (by decide) (by decide)] <;> decide
theorem down_f {a : Int} (h : -9223372036854775808 ≤ a ∧ a < 9223372036854775808) : rotuletref02_down.f a = some (a / 2) := by
  unfold rotuletref02_down.f
  rw [odd_f, Option.bind_some, w64 (x := a - a % 2) (by omega) (by omega), show a - a % 2 = 2 * (a / 2) from by omega, Int.mul_tdiv_cancel_left _ (by decide), w64 (by omega) (by omega)]
theorem ref_half {a b : Int} (ha : -9223372036854775808 ≤ a ∧ a < 9223372036854775808) (hb : -9223372036854775808 ≤ b ∧ b < 9223372036854775808) : rotuletref02_Half.f a b = some ((a + b) / 2) := by
  unfold rotuletref02_Half.f
  rw [down_f ha, Option.bind_some, down_f hb, Option.bind_some, odd_f, Option.bind_some, odd_f, Option.bind_some, w64 (x := a / 2 + b / 2) (by omega) (by omega)]
  congr 1
  rcases (by omega : a % 2 = 0 ∨ a % 2 = 1) with h1 | h1 <;> rcases (by omega : b % 2 = 0 ∨ b % 2 = 1) with h2 | h2 <;> rw [h1, h2]
  · rw [w64 (x := 0 * 0) (by decide) (by decide), w64 (by omega) (by omega)]; omega
  · rw [w64 (x := 0 * 1) (by decide) (by decide), w64 (by omega) (by omega)]; omega
  · rw [w64 (x := 1 * 0) (by decide) (by decide), w64 (by omega) (by omega)]; omega
  · rw [w64 (x := 1 * 1) (by decide) (by decide), w64 (by omega) (by omega)]; omega
theorem ref_between (v a b : Int) : rotuletref02_Between.f v a b = some (btw v (min a b) (max a b)) := by
  unfold rotuletref02_Between.f
  congr 1
  have e1 : mn a b = min a b := by unfold mn; split <;> omega
  have e2 : mx a b = max a b := by unfold mx; split <;> omega
  rw [e1, e2]
  unfold btw mn mx
  repeat' split
  all_goals omega

theorem CastTells : rotuletlaw02_CastTells.Pure := by
  intro a b n ha hb _
  have ha := wf_i64 ha
  have hb := wf_i64 hb
  have hu : 0 ≤ IntKind.u64.wrap a ∧ IntKind.u64.wrap a < 18446744073709551616 := by rw [u64_eq]; omega
  refine ⟨300, ?_⟩
  unfold rotuletlaw02_CastTells.f
  generalize IntKind.u64.wrap a = u at *
  obtain ⟨s, hs⟩ : ∃ s, cast_Signed.f u = some s := by unfold cast_Signed.f; split <;> exact ⟨_, rfl⟩
  rw [narrow_f, Option.bind_some, ref_narrow hu (by omega), Option.bind_some, ref_signed hu, hs, Option.bind_some, Option.bind_some, if_pos rfl, if_neg (by simp), if_pos rfl, if_neg (by simp),
    fits_f, Option.bind_some, ref_fits a n (by omega), Option.bind_some, if_neg (by simp), wrap_f, Option.bind_some, ref_wrap (by omega), Option.bind_some, if_pos rfl, clamp_f, Option.bind_some, ref_clamp a n (by omega), Option.bind_some,
    bne_self_eq_false]
  obtain ⟨g, hg⟩ : ∃ g, cast_Log.f 299 u = some g := by
    by_cases h : u = 0
    · subst h; exact ⟨_, log_zero⟩
    · obtain ⟨r, _, hl, _⟩ := log_f (k := 299) (show 0 < u by omega) hu.2
      exact ⟨_, hl⟩
  obtain ⟨y, hy⟩ : ∃ y, cast_Align.f u n = some y := ⟨_, align_f hu⟩
  simp only [rotuletlaw02_CastTells.j0]
  rw [if_neg (by decide), hg, Option.bind_some, ref_log hu (by omega), hg, Option.bind_some, hy, Option.bind_some, ref_align hu (by omega), hy, Option.bind_some, alive_f, Option.bind_some, if_pos rfl, if_pos rfl, if_pos (by simp), if_pos rfl, if_pos (by simp),
    zig_f ha, Option.bind_some, ref_zig ha, Option.bind_some, if_pos rfl, zag_f hu, Option.bind_some, ref_zag hu, Option.bind_some, if_pos rfl, half_f ha hb, Option.bind_some, ref_half ha hb, Option.bind_some, if_pos rfl,
    between_f, Option.bind_some, ref_between, Option.bind_some]
  simp

end Go.Proofs.Ytjenbokdcbppoaa.Pure
