/- Proved: for all numbers and any width, the law CastOrder answers true. -/
import Derived.Test.YtjenbokdcbppoaaFnLCastOrder
import Derived.Test.YtjenbokdcbppoaaNum
namespace Go.Proofs.Ytjenbokdcbppoaa.Pure
open Go.RowKit Go.Proofs.Ytjenbokdcbppoaa.Fn Go.Proofs.YtjenbokdcbppoaaW.PrintWords Go.Proofs.YtjenbokdcbppoaaW.PrintLast Go.Proofs.YtjenbokdcbppoaaW.PrintMore

theorem zig_bd {v : Int} (h : -9223372036854775808 ≤ v ∧ v < 9223372036854775808) : 0 ≤ zig v ∧ zig v < 18446744073709551616 := by unfold zig; split <;> omega
theorem clp_mono {m : Nat} {a b : Int} (h : a ≤ b) : clp m a ≤ clp m b := by
  have := P_pos (m - 1)
  unfold clp btw
  repeat' split
  all_goals omega
theorem up_mono {p a b : Int} (hp : 0 < p) (h : a ≤ b) : up p a ≤ up p b := by
  unfold up
  exact Int.mul_le_mul_of_nonneg_right (Int.ediv_le_ediv hp (by omega)) (by omega)

theorem order_j2 {x : Int} (hx : -9223372036854775808 ≤ x ∧ x < 9223372036854775808) (k : Nat) : rotuletlaw02_CastOrder.j2 (k + 1) x false = some true := by
  simp only [rotuletlaw02_CastOrder.j2]
  rw [if_neg (by decide)]
  by_cases h1 : x > -9223372036854775808
  · rw [if_pos h1]
    by_cases h2 : x < 0
    · have hz := zig_bd hx
      have e1 : zig x = -2 * x - 1 := by unfold zig; rw [if_neg (by omega)]
      have e2 : zig (-x) = -2 * x := by unfold zig; rw [if_pos (by omega)]; omega
      rw [if_pos h2, zig_f hx, Option.bind_some, w64 (by omega) (by omega), zig_f (by omega), Option.bind_some, if_neg (by omega), Option.bind_some, Option.bind_some,
        if_pos (by rw [u64_eq]; omega), alive_f]
      rfl
    · rw [if_neg h2, alive_f]
      rfl
  · rw [if_neg h1, alive_f]
    rfl

theorem order_j1 {x y : Int} (hx : -9223372036854775808 ≤ x ∧ x < 9223372036854775808) (hy : -9223372036854775808 ≤ y ∧ y < 9223372036854775808) (h : x ≤ y) (k : Nat) : rotuletlaw02_CastOrder.j1 (k + 2) x y false = some true := by
  simp only [rotuletlaw02_CastOrder.j1]
  rw [if_neg (by decide)]
  by_cases h0 : x ≥ 0
  · have e1 : zig x = 2 * x := by unfold zig; rw [if_pos (by omega)]
    have e2 : zig y = 2 * y := by unfold zig; rw [if_pos (by omega)]
    rw [if_pos h0, zig_f hx, Option.bind_some, zig_f hy, Option.bind_some, decide_eq_true (show zig x ≤ zig y by omega), decide_eq_true h, if_neg (by decide), if_neg (by omega)]
    exact order_j2 hx k
  · rw [if_neg h0]
    by_cases h1 : y < 0
    · have e1 : zig x = -2 * x - 1 := by unfold zig; rw [if_neg (by omega)]
      have e2 : zig y = -2 * y - 1 := by unfold zig; rw [if_neg (by omega)]
      rw [if_pos h1, zig_f hx, Option.bind_some, zig_f hy, Option.bind_some, decide_eq_true (show zig x ≥ zig y by omega), decide_eq_true h]
      exact order_j2 hx k
    · rw [if_neg h1]
      exact order_j2 hx k

theorem order_j0 {x y n : Int} (hx : -9223372036854775808 ≤ x ∧ x < 9223372036854775808) (hy : -9223372036854775808 ≤ y ∧ y < 9223372036854775808) (h : x ≤ y) (k : Nat) : rotuletlaw02_CastOrder.j0 (k + 3) n x y false = some true := by
  have hu : 0 ≤ IntKind.u64.wrap x ∧ IntKind.u64.wrap x < 18446744073709551616 := by rw [u64_eq]; omega
  have hv : 0 ≤ IntKind.u64.wrap y ∧ IntKind.u64.wrap y < 18446744073709551616 := by rw [u64_eq]; omega
  have fin := order_j1 hx hy h k
  have hp := P_pos (sh n)
  simp only [rotuletlaw02_CastOrder.j0]
  generalize IntKind.u64.wrap x = u at *
  generalize IntKind.u64.wrap y = v at *
  rw [if_neg (by decide), align_f hu, Option.bind_some, align_f hv, Option.bind_some]
  by_cases c1 : u + P (sh n) - 1 < 18446744073709551616
  · rw [if_pos c1, if_pos rfl]
    by_cases c2 : v + P (sh n) - 1 < 18446744073709551616
    · rw [if_pos c2, if_pos rfl]
      by_cases hle : u ≤ v
      · rw [decide_eq_true hle, decide_eq_true (up_mono hp hle), if_neg (by decide)]
        exact fin
      · have hge := up_mono (a := v) (b := u) hp (by omega)
        rw [decide_eq_false hle]
        by_cases he : up (P (sh n)) u ≤ up (P (sh n)) v
        · rw [decide_eq_true he, if_pos (by decide), show up (P (sh n)) u = up (P (sh n)) v from by omega]
          simp only [bne_self_eq_false]
          exact fin
        · rw [decide_eq_false he, if_neg (by decide)]
          exact fin
    · rw [if_neg c2, if_neg (by decide)]
      exact fin
  · rw [if_neg c1, if_neg (by decide)]
    exact fin

theorem CastOrder : rotuletlaw02_CastOrder.Pure := by
  intro a b n ha hb _
  have ha := wf_i64 ha
  have hb := wf_i64 hb
  have e1 : mn a b = min a b := by unfold mn; split <;> omega
  have e2 : mx a b = max a b := by unfold mx; split <;> omega
  refine ⟨3, ?_⟩
  unfold rotuletlaw02_CastOrder.f
  rw [half_f ha hb, Option.bind_some, clamp_f, Option.bind_some, clamp_f, Option.bind_some, e1, e2]
  have hm : clp (wd n) (min a b) ≤ clp (wd n) (max a b) := clp_mono (by omega)
  rw [if_neg (by omega), if_neg (by omega), if_neg (by omega), half_f hb ha, Option.bind_some, show (b + a) / 2 = (a + b) / 2 from by omega, bne_self_eq_false]
  exact order_j0 (by omega) (by omega) (by omega) 0

end Go.Proofs.Ytjenbokdcbppoaa.Pure
