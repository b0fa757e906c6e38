/- Proved: for all numbers and any width, the law CastBack answers true. -/
import Derived.Test.YtjenbokdcbppoaaFnLCastBack
import Derived.Test.YtjenbokdcbppoaaNum
namespace Go.Proofs.Ytjenbokdcbppoaa.Pure
open Go.RowKit Go.Proofs.Ytjenbokdcbppoaa.Fn Go.Proofs.YtjenbokdcbppoaaW.PrintWords Go.Proofs.YtjenbokdcbppoaaW.PrintLast Go.Proofs.YtjenbokdcbppoaaW.PrintMore

theorem zig_bd {v : Int} (h : -9223372036854775808 ≤ v ∧ v < 9223372036854775808) : 0 ≤ zig v ∧ zig v < 18446744073709551616 := by unfold zig; split <;> omega
theorem zag_bd {u : Int} (h : 0 ≤ u ∧ u < 18446744073709551616) : -9223372036854775808 ≤ zag u ∧ zag u < 9223372036854775808 := by unfold zag; split <;> omega
theorem zag_zig (v : Int) : zag (zig v) = v := by unfold zag zig; split <;> split <;> omega
theorem zig_zag {u : Int} (h : 0 ≤ u) : zig (zag u) = u := by unfold zag zig; split <;> split <;> omega
theorem clp_bd {m : Nat} (v : Int) : -P (m - 1) ≤ clp m v ∧ clp m v < P (m - 1) := by
  have := P_pos (m - 1)
  unfold clp btw
  split <;> (try split) <;> omega
theorem clp_fix {m : Nat} {v : Int} (h0 : -P (m - 1) ≤ v) (h1 : v < P (m - 1)) : clp m v = v := by
  unfold clp btw
  rw [if_neg (by omega), if_neg (by omega)]
theorem fit_iff {m : Nat} (h : 1 ≤ m) (v : Int) : W m v = v ↔ (-P (m - 1) ≤ v ∧ v < P (m - 1)) := by
  constructor
  · intro e
    have := W_bd h v
    omega
  · exact fun h' => W_fix h h'.1 h'.2
theorem clp_iff {m : Nat} (v : Int) : clp m v = v ↔ (-P (m - 1) ≤ v ∧ v < P (m - 1)) := by
  constructor
  · intro e
    have := clp_bd (m := m) v
    omega
  · exact fun h' => clp_fix h'.1 h'.2

theorem CastBack : rotuletlaw02_CastBack.Pure := by
  intro v n hv _
  have hv := wf_i64 hv
  have h := (wd_bd n).1
  refine ⟨1, ?_⟩
  have hu : 0 ≤ IntKind.u64.wrap v ∧ IntKind.u64.wrap v < 18446744073709551616 := by rw [u64_eq]; omega
  have e : (W (wd n) v == v) = (clp (wd n) v == v) := by
    rw [Bool.eq_iff_iff, beq_iff_eq, beq_iff_eq, fit_iff h, clp_iff]
  have hw := W_bd h v
  have hc := clp_bd (m := wd n) v
  unfold rotuletlaw02_CastBack.f
  rw [wrap_f, Option.bind_some, clamp_f, Option.bind_some, fits_f, Option.bind_some, zig_f hv, Option.bind_some, zag_f (zig_bd hv), Option.bind_some, if_pos (zag_zig v),
    zag_f hu, Option.bind_some, zig_f (zag_bd hu), Option.bind_some, if_pos (zig_zag hu.1), if_neg (by simp), e]
  simp only [rotuletlaw02_CastBack.j0, bne_self_eq_false]
  rw [if_neg (by decide), alive_f, Option.bind_some, if_pos rfl, fits_f, Option.bind_some, W_fix h hw.1 hw.2, beq_self_eq_true, if_pos rfl, fits_f, Option.bind_some, W_fix h hc.1 hc.2, beq_self_eq_true, if_pos rfl,
    wrap_f, Option.bind_some, W_fix h hw.1 hw.2, if_pos rfl, clamp_f, Option.bind_some, clp_fix hc.1 hc.2, beq_self_eq_true]

end Go.Proofs.Ytjenbokdcbppoaa.Pure
