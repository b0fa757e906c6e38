/- Proved: for all numbers and any width, the law CastSums answers true. -/
import Derived.Test.YtjenbokdcbppoaaFnLCastSums
import Derived.Test.YtjenbokdcbppoaaNum
namespace Go.Proofs.Ytjenbokdcbppoaa.Pure
open Go.RowKit Go.Proofs.Ytjenbokdcbppoaa.Fn Go.Proofs.YtjenbokdcbppoaaW.PrintWords Go.Proofs.YtjenbokdcbppoaaW.PrintLast Go.Proofs.YtjenbokdcbppoaaW.PrintMore

theorem w64_dvd {m : Nat} (h : m ≤ 64) (z : Int) : P m ∣ wrap64 z - z := by
  refine Int.dvd_trans (P_dvd h) ⟨-((z + 9223372036854775808) / 18446744073709551616), ?_⟩
  rw [w64_eq]
  omega
theorem step_dvd {m : Nat} (h : m ≤ 64) {s t : Int} (hst : P m ∣ s - t) : P m ∣ wrap64 s - wrap64 t := by
  have := Int.dvd_add (Int.dvd_sub (w64_dvd h s) (w64_dvd h t)) hst
  rw [show wrap64 s - s - (wrap64 t - t) + (s - t) = wrap64 s - wrap64 t from by omega] at this
  exact this
theorem W_add {m : Nat} (h : m ≤ 64) (a b : Int) : W m (wrap64 (W m a + W m b)) = W m (wrap64 (a + b)) := by
  refine W_congr (step_dvd h ?_)
  have := Int.dvd_add (W_dvd m a) (W_dvd m b)
  rw [show W m a - a + (W m b - b) = W m a + W m b - (a + b) from by omega] at this
  exact this
theorem W_sub {m : Nat} (h : m ≤ 64) (a b : Int) : W m (wrap64 (W m a - W m b)) = W m (wrap64 (a - b)) := by
  refine W_congr (step_dvd h ?_)
  have := Int.dvd_sub (W_dvd m a) (W_dvd m b)
  rw [show W m a - a - (W m b - b) = W m a - W m b - (a - b) from by omega] at this
  exact this
theorem W_mul {m : Nat} (h : m ≤ 64) (a b : Int) : W m (wrap64 (W m a * W m b)) = W m (wrap64 (a * b)) := by
  refine W_congr (step_dvd h ?_)
  have := Int.dvd_add (Int.dvd_trans (W_dvd m a) (Int.dvd_mul_right _ (W m b))) (Int.dvd_trans (W_dvd m b) (Int.dvd_mul_left a _))
  rw [Int.sub_mul, Int.mul_sub, show W m a * W m b - a * W m b + (a * W m b - a * b) = W m a * W m b - a * b from by omega] at this
  exact this
theorem low_eq {m : Nat} (h : m ≤ 64) (a : Int) : IntKind.u64.wrap a % P m = IntKind.u64.wrap (W m a) % P m := by
  rw [u64_eq, u64_eq, Int.emod_emod_of_dvd _ (P_dvd h), Int.emod_emod_of_dvd _ (P_dvd h), eq_comm, Int.emod_eq_emod_iff_emod_sub_eq_zero]
  exact Int.emod_eq_zero_of_dvd (W_dvd m a)

theorem CastSums : rotuletlaw02_CastSums.Pure := by
  intro a b n _ _ _
  have h := (wd_bd n).2
  unfold rotuletlaw02_CastSums.f
  rw [wrap_f, Option.bind_some, wrap_f, Option.bind_some, narrow_f, Option.bind_some, narrow_f, Option.bind_some, alive_f, Option.bind_some, if_pos rfl,
    wrap_f, Option.bind_some, wrap_f, Option.bind_some, if_pos (W_add h a b), wrap_f, Option.bind_some, wrap_f, Option.bind_some, if_pos (W_sub h a b), wrap_f, Option.bind_some, wrap_f, Option.bind_some, if_pos (W_mul h a b)]
  simp only
  rw [low_eq h a]
  simp

end Go.Proofs.Ytjenbokdcbppoaa.Pure
