/- Proved: for all numbers, the law CastBetween answers true. -/
import Derived.Test.YtjenbokdcbppoaaFnLCastBetween
import Derived.Test.YtjenbokdcbppoaaNum
namespace Go.Proofs.Ytjenbokdcbppoaa.Pure
open Go.RowKit Go.Proofs.Ytjenbokdcbppoaa.Fn Go.Proofs.YtjenbokdcbppoaaW.PrintWords Go.Proofs.YtjenbokdcbppoaaW.PrintLast Go.Proofs.YtjenbokdcbppoaaW.PrintMore

theorem btw_bd {v a b : Int} (h : a ≤ b) : a ≤ btw v a b ∧ btw v a b ≤ b := by unfold btw; split <;> (try split) <;> omega
theorem btw_in {v a b : Int} (h0 : a ≤ v) (h1 : v ≤ b) : btw v a b = v := by unfold btw; rw [if_neg (by omega), if_neg (by omega)]
theorem btw_lo {v a b : Int} (h : v < a) : btw v a b = a := by unfold btw; rw [if_pos h]
theorem btw_hi {v a b : Int} (h0 : a ≤ b) (h : b < v) : btw v a b = b := by unfold btw; rw [if_neg (by omega), if_pos h]

theorem CastBetween : rotuletlaw02_CastBetween.Pure := by
  intro v a b _ _ _
  have e1 : mn a b = min a b := by unfold mn; split <;> omega
  have e2 : mx a b = max a b := by unfold mx; split <;> omega
  have hle : min a b ≤ max a b := by omega
  have hb := btw_bd (v := v) hle
  have fin : ∀ k : Nat, rotuletlaw02_CastBetween.j0 (k + 1) v a b (btw v (min a b) (max a b)) false = some true := by
    intro k
    simp only [rotuletlaw02_CastBetween.j0]
    rw [if_neg (by decide), alive_f, Option.bind_some, if_pos rfl, between_f, Option.bind_some, clamp_f, Option.bind_some, if_pos (by
      have : wd 8 = 8 := rfl
      rw [this]; unfold clp; rfl), between_f, Option.bind_some, btw_in hb.1 hb.2]
    simp
  refine ⟨1, ?_⟩
  unfold rotuletlaw02_CastBetween.f
  rw [between_f, Option.bind_some, between_f, Option.bind_some, Int.min_comm b a, Int.max_comm b a, if_pos rfl, e1, e2, if_neg (by omega), if_neg (by omega)]
  by_cases h1 : v < min a b
  · rw [if_neg (by omega), if_pos h1, if_pos (btw_lo h1), if_neg (by omega)]
    exact fin 0
  · by_cases h2 : v > max a b
    · rw [if_pos (by omega), if_neg (by omega), if_neg h1, if_pos h2, btw_hi hle (by omega)]
      have := fin 0
      rw [btw_hi hle (by omega)] at this
      simpa using this
    · rw [if_pos (by omega), if_pos (by omega), if_pos (btw_in (by omega) (by omega)), if_neg h1, if_neg h2]
      exact fin 0

end Go.Proofs.Ytjenbokdcbppoaa.Pure
