/- Proved: for all numbers and any power, the law CastPowers answers true. -/
import Derived.Test.YtjenbokdcbppoaaFnLCastPowers
import Derived.Test.YtjenbokdcbppoaaNum
namespace Go.Proofs.Ytjenbokdcbppoaa.Pure
open Go.RowKit Go.Proofs.Ytjenbokdcbppoaa.Fn Go.Proofs.YtjenbokdcbppoaaW.PrintWords Go.Proofs.YtjenbokdcbppoaaW.PrintLast Go.Proofs.YtjenbokdcbppoaaW.PrintMore

theorem up_spec {p v : Int} (hp : 0 < p) : v ≤ up p v ∧ up p v < v + p ∧ up p v % p = 0 := by
  unfold up
  have h1 := Int.emod_def (v + p - 1) p
  have h2 := Int.emod_nonneg (v + p - 1) (show p ≠ 0 by omega)
  have h3 := Int.emod_lt_of_pos (v + p - 1) hp
  rw [Int.mul_comm] at h1
  refine ⟨by omega, by omega, Int.mul_emod_left _ _⟩
theorem up_mul {p q : Int} (hp : 0 < p) : up p (p * q) = p * q := by
  unfold up
  rw [show p * q + p - 1 = p * q + (p - 1) from by omega, Int.mul_add_ediv_left _ _ (by omega), Int.ediv_eq_zero_of_lt (show 0 ≤ p - 1 by omega) (show p - 1 < p by omega), Int.add_zero, Int.mul_comm]
theorem up_up {p v : Int} (hp : 0 < p) : up p (up p v) = up p v := by
  have h1 := up_spec (v := v) hp
  have h2 : up p v = p * (up p v / p) := by have := Int.emod_def (up p v) p; omega
  rw [h2]
  exact up_mul hp

theorem up_lim {m : Nat} (h : m ≤ 63) {v : Int} (hv : v + P m - 1 < 18446744073709551616) : up (P m) v + P m - 1 < 18446744073709551616 := by
  have h1 := up_spec (v := v) (P_pos m)
  obtain ⟨q, hq⟩ := P_dvd (show m ≤ 64 by omega)
  have h2 : up (P m) v = P m * (up (P m) v / P m) := by have := Int.emod_def (up (P m) v) (P m); omega
  have h3 : up (P m) v < 18446744073709551616 := by omega
  rw [h2, hq] at h3
  have h4 : up (P m) v / P m < q := Int.lt_of_mul_lt_mul_left h3 (Int.le_of_lt (P_pos m))
  have h5 : P m * (up (P m) v / P m + 1) ≤ P m * q := Int.mul_le_mul_of_nonneg_left (by omega) (Int.le_of_lt (P_pos m))
  rw [Int.mul_add, Int.mul_one, ← h2, ← hq] at h5
  omega

theorem shl_one {n : Nat} (h : n ≤ 63) : shl .u64 1 (IntKind.u64.wrap (n : Int)) = P n := by
  have e : IntKind.u64.wrap (n : Int) = (n : Int) := by rw [u64_eq]; omega
  have hp := P_mono h
  rw [P_63] at hp
  have h0 := P_pos n
  rw [e]
  unfold shl
  rw [Int.toNat_natCast, Nat.min_eq_left (show n ≤ IntKind.u64.bits from by show n ≤ 64; omega), u64_eq]
  show (1 * P n) % 18446744073709551616 = P n
  omega

theorem powers_j1 {v n : Int} (hv : 0 ≤ v ∧ v < 18446744073709551616) (h0 : 0 ≤ n) (h1 : n ≤ 63) (k : Nat) : rotuletlaw02_CastPowers.j1 (k + 1) v n false = some true := by
  obtain ⟨m, rfl⟩ : ∃ m : Nat, n = (m : Int) := ⟨n.toNat, by omega⟩
  have hm : m ≤ 63 := by omega
  have es : sh (m : Int) = m := by unfold sh; omega
  have hp := P_pos m
  have hp63 := P_mono hm
  rw [P_63] at hp63
  have hu := up_spec (v := v) hp
  have ew : 0 ≤ IntKind.u64.wrap (m : Int) := by rw [u64_eq]; omega
  simp only [rotuletlaw02_CastPowers.j1]
  rw [if_neg (by decide), align_f hv, es]
  by_cases hc : v + P m - 1 < 18446744073709551616
  · rw [if_pos hc, Option.bind_some, narrow_f, Option.bind_some]
    have hl := up_lim hm hc
    rw [if_pos rfl, align_f ⟨by omega, by omega⟩, es, if_pos hl, Option.bind_some, alive_f, Option.bind_some, if_pos rfl, if_pos (by omega), if_pos ew, shl_one hm, if_pos (by rw [u64_eq]; omega), up_up hp]
    by_cases hz : (m : Int) = 0
    · rw [if_pos hz, if_pos rfl]
      simp
    · rw [if_neg hz, if_pos rfl]
      have : wd (mx (m : Int) 1) = m := by unfold wd mx; split <;> omega
      rw [this, if_pos hu.2.2]
      simp
  · rw [if_neg hc, Option.bind_some, narrow_f, Option.bind_some, if_neg (by decide), alive_f, Option.bind_some, if_pos rfl, if_pos rfl]
    have : 0 < m := by
      rcases Nat.eq_zero_or_pos m with rfl | h
      · exact absurd (show v + P 0 - 1 < 18446744073709551616 by have : P 0 = 1 := rfl; omega) hc
      · exact h
    rw [if_pos (by omega), if_pos ew, shl_one hm]
    congr 1
    refine decide_eq_true ?_
    rw [u64_eq]
    omega

theorem powers_j0 {v n : Int} (hv : 0 ≤ v ∧ v < 18446744073709551616) (k : Nat) : rotuletlaw02_CastPowers.j0 (k + 2) v n false = some true := by
  have away : rotuletlaw02_CastPowers.j1 (k + 1) v n true = some true := by
    simp only [rotuletlaw02_CastPowers.j1]
    rw [if_pos trivial, alive_f]
    rfl
  simp only [rotuletlaw02_CastPowers.j0]
  rw [if_neg (by decide)]
  by_cases h0 : n < 0
  · rw [if_pos h0]
    exact away
  · rw [if_neg h0]
    by_cases h1 : n > 63
    · rw [decide_eq_true h1]
      exact away
    · rw [decide_eq_false h1]
      exact powers_j1 hv (by omega) (by omega) k

theorem CastPowers : rotuletlaw02_CastPowers.Pure := by
  intro v n hv _
  have hv := wf_u64 hv
  refine ⟨2, ?_⟩
  unfold rotuletlaw02_CastPowers.f
  by_cases h0 : v = 0
  · subst h0
    rw [log_zero, Option.bind_some, if_neg (by decide), if_neg (by decide)]
    exact powers_j0 (by omega) 0
  · obtain ⟨r, hr, hl, h1, h2⟩ := log_f (k := 2) (show 0 < v by omega) hv.2
    have ew : IntKind.u64.wrap (r : Int) = (r : Int) := by rw [u64_eq]; omega
    rw [hl, Option.bind_some, decide_eq_true (show v > 0 by omega), if_neg (by simp), if_pos rfl]
    have e : shr .u64 v (IntKind.u64.wrap (r : Int)) = 1 := by
      rw [ew]
      unfold shr
      rw [Int.toNat_natCast, Nat.min_eq_left (show r ≤ IntKind.u64.bits from by show r ≤ 64; omega)]
      show v / P r = 1
      rw [P_succ] at h2
      have hp := P_pos r
      rw [show v = P r * 1 + (v - P r) from by omega, Int.mul_add_ediv_left _ _ (by omega), Int.ediv_eq_zero_of_lt (by omega) (by omega), Int.add_zero]
    rw [if_pos (by rw [u64_eq]; omega), e]
    exact powers_j0 hv 0

end Go.Proofs.Ytjenbokdcbppoaa.Pure
