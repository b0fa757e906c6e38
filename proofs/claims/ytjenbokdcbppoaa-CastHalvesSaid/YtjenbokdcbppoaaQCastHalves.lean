/- Proved: for all numbers, the law CastHalves answers true. -/
import Derived.Test.YtjenbokdcbppoaaFnLCastHalves
import Derived.Test.YtjenbokdcbppoaaNum
namespace Go.Proofs.Ytjenbokdcbppoaa.Pure
open Go.RowKit Go.Proofs.Ytjenbokdcbppoaa.Fn Go.Proofs.YtjenbokdcbppoaaW.PrintWords Go.Proofs.YtjenbokdcbppoaaW.PrintLast Go.Proofs.YtjenbokdcbppoaaW.PrintMore

/-- The last test, as the law asks it. -/
theorem halves_end {x0 x1 w far s : Int} {x11 : Bool} (hs : s ≤ far + 1) (hf : 0 ≤ far ∧ far < 64) (h11 : x11 = (x0 != x1)) (k : Nat) :
    rotuletlaw02_CastHalves.j1 (k + 1) x0 x1 w w w far x11 s false = some true := by
  unfold rotuletlaw02_CastHalves.j1
  rw [if_neg (by decide), alive_f, Option.bind_some, if_pos rfl, if_pos rfl, if_pos rfl, if_pos (by rw [w64 (by omega) (by omega)]; omega), h11]
  simp

/-- f steps of the far + 1 are left: the numbers that are left are fewer than 2 ^ f. -/
theorem halves_l0 {x0 x1 w far : Int} {x11 : Bool} (hf : 0 ≤ far ∧ far < 64) (h11 : x11 = (x0 != x1)) : ∀ (f k : Nat) (a b s : Int), 3 * f + 2 < k → s + (f : Int) = far + 1 → 0 ≤ s → a ≤ w → w ≤ b → b - a < P f →
    -9223372036854775808 ≤ a → b < 9223372036854775808 → rotuletlaw02_CastHalves.l0 k x0 x1 a b w far x11 s = some true := by
  intro f
  induction f with
  | zero =>
    intro k a b s hk hs h0 h1 h2 h3 h4 h5
    obtain ⟨k, rfl⟩ : ∃ m, k = m + 2 := ⟨k - 2, by omega⟩
    have : P 0 = 1 := rfl
    have e1 : a = w := by omega
    have e2 : b = w := by omega
    unfold rotuletlaw02_CastHalves.l0
    rw [if_neg (by omega), e1, e2]
    exact halves_end (by omega) hf h11 k
  | succ f ih =>
    intro k a b s hk hs h0 h1 h2 h3 h4 h5
    obtain ⟨k, rfl⟩ : ∃ m, k = m + 3 := ⟨k - 3, by omega⟩
    rw [P_succ] at h3
    unfold rotuletlaw02_CastHalves.l0
    by_cases hlt : a < b
    · rw [if_pos hlt, decide_eq_true (show s < 70 by omega)]
      unfold rotuletlaw02_CastHalves.j1
      rw [if_pos rfl, half_f ⟨h4, by omega⟩ ⟨by omega, h5⟩, Option.bind_some, if_neg (by omega), decide_eq_false (by omega)]
      unfold rotuletlaw02_CastHalves.j2
      rw [if_neg (by decide), w64 (x := s + 1) (by omega) (by omega)]
      by_cases hw : w ≤ (a + b) / 2
      · rw [if_pos hw]
        exact ih k a ((a + b) / 2) (s + 1) (by omega) (by omega) (by omega) h1 hw (by omega) h4 (by omega)
      · rw [if_neg hw, w64 (by omega) (by omega)]
        exact ih k ((a + b) / 2 + 1) b (s + 1) (by omega) (by omega) (by omega) (by omega) h2 (by omega) (by omega) h5
    · have e1 : a = w := by omega
      have e2 : b = w := by omega
      rw [if_neg hlt, e1, e2]
      exact halves_end (by omega) hf h11 (k + 1)

theorem CastHalves : rotuletlaw02_CastHalves.Pure := by
  intro a b v ha hb hv
  have ha := wf_i64 ha
  have hb := wf_i64 hb
  have hv := wf_i64 hv
  have e1 : mn a b = min a b := by unfold mn; split <;> omega
  have e2 : mx a b = max a b := by unfold mx; split <;> omega
  refine ⟨300, ?_⟩
  unfold rotuletlaw02_CastHalves.f
  rw [e1, e2, between_f, Option.bind_some, show min (min a b) (max a b) = min a b from by omega, show max (min a b) (max a b) = max a b from by omega]
  have hbt : min a b ≤ btw v (min a b) (max a b) ∧ btw v (min a b) (max a b) ≤ max a b := by unfold btw; repeat' split <;> omega
  have ed : IntKind.u64.wrap (IntKind.u64.wrap (max a b) - IntKind.u64.wrap (min a b)) = max a b - min a b := by
    rw [u64_eq, u64_eq, u64_eq]
    generalize hx : max a b = x
    generalize hy : min a b = y
    omega
  rw [ed]
  by_cases he : a = b
  · have hz : max a b - min a b = 0 := by omega
    rw [hz, log_zero, Option.bind_some]
    exact halves_l0 (by omega) (by rw [he]; simp) 1 300 _ _ 0 (by omega) (by omega) (by omega) hbt.1 hbt.2 (by have : P 1 = 2 := rfl; omega) (by omega) (by omega)
  · obtain ⟨r, hr, hl, h1, h2⟩ := log_f (k := 300) (v := max a b - min a b) (by omega) (by omega)
    rw [hl, Option.bind_some]
    exact halves_l0 (by omega) (by simp [he]) (r + 1) 300 _ _ 0 (by omega) (by omega) (by omega) hbt.1 hbt.2 h2 (by omega) (by omega)

end Go.Proofs.Ytjenbokdcbppoaa.Pure
