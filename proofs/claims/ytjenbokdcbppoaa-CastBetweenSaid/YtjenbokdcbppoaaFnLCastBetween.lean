/- The functions that the laws of this seat reach, as Lean functions, and for each the proof that the Go code comes to just these answers (lines written by the kit's print for these claims, joined by a program of ours; where a remark says so, by hand). Conditions: none. -/
import Derived.Test.YtjenbokdcbppoaaFn2
namespace Go.Proofs.Ytjenbokdcbppoaa.Fn
open Go.RowKit Go.Proofs.YtjenbokdcbppoaaW.PrintWords Go.Proofs.YtjenbokdcbppoaaW.PrintLast Go.Proofs.YtjenbokdcbppoaaW.PrintMore
attribute [local go_sem] max2_int min2_int max_two min_two max_three min_three max_four min_four   -- for this text's walks alone
set_option linter.unusedVariables false
set_option linter.unusedSimpArgs false
/-! ### rotuletlaw02_CastBetween: function 5 -/
def rotuletlaw02_CastBetween.j0 : Nat → Int → Int → Int → Int → Bool → Option (Bool)
  | 0, _, _, _, _, _ => none
  | k + 1, x0, x1, x2, x7, x70 => if x70 = true then (some false) else ((rotuletlaw02_alive.f).bind fun t115 => (if t115 = true then ((cast_Between.f x0 (-128) 127).bind fun t116 => ((cast_Clamp.f x0 8).bind fun t117 => (if t116 = t117 then ((cast_Between.f x7 x1 x2).bind fun t118 => (some (t118 == x7))) else (some false)))) else (some false)))
def rotuletlaw02_CastBetween.f (k : Nat) (a0 : Int) (a1 : Int) (a2 : Int) : Option (Bool) := (cast_Between.f a0 a1 a2).bind fun t113 => ((cast_Between.f a0 a2 a1).bind fun t114 => (if t113 = t114 then (if t113 < (mn a1 a2) then (rotuletlaw02_CastBetween.j0 k a0 a1 a2 t113 true) else (if t113 > (mx a1 a2) then (rotuletlaw02_CastBetween.j0 k a0 a1 a2 t113 true) else (if a0 ≥ (mn a1 a2) then (if a0 ≤ (mx a1 a2) then (if t113 = a0 then (if a0 < (mn a1 a2) then (if t113 = (mn a1 a2) then (if a0 > (mx a1 a2) then (rotuletlaw02_CastBetween.j0 k a0 a1 a2 t113 (t113 != (mx a1 a2))) else (rotuletlaw02_CastBetween.j0 k a0 a1 a2 t113 false)) else (rotuletlaw02_CastBetween.j0 k a0 a1 a2 t113 true)) else (if a0 > (mx a1 a2) then (rotuletlaw02_CastBetween.j0 k a0 a1 a2 t113 (t113 != (mx a1 a2))) else (rotuletlaw02_CastBetween.j0 k a0 a1 a2 t113 false))) else (rotuletlaw02_CastBetween.j0 k a0 a1 a2 t113 true)) else (if a0 < (mn a1 a2) then (if t113 = (mn a1 a2) then (if a0 > (mx a1 a2) then (rotuletlaw02_CastBetween.j0 k a0 a1 a2 t113 (t113 != (mx a1 a2))) else (rotuletlaw02_CastBetween.j0 k a0 a1 a2 t113 false)) else (rotuletlaw02_CastBetween.j0 k a0 a1 a2 t113 true)) else (if a0 > (mx a1 a2) then (rotuletlaw02_CastBetween.j0 k a0 a1 a2 t113 (t113 != (mx a1 a2))) else (rotuletlaw02_CastBetween.j0 k a0 a1 a2 t113 false)))) else (if a0 < (mn a1 a2) then (if t113 = (mn a1 a2) then (if a0 > (mx a1 a2) then (rotuletlaw02_CastBetween.j0 k a0 a1 a2 t113 (t113 != (mx a1 a2))) else (rotuletlaw02_CastBetween.j0 k a0 a1 a2 t113 false)) else (rotuletlaw02_CastBetween.j0 k a0 a1 a2 t113 true)) else (if a0 > (mx a1 a2) then (rotuletlaw02_CastBetween.j0 k a0 a1 a2 t113 (t113 != (mx a1 a2))) else (rotuletlaw02_CastBetween.j0 k a0 a1 a2 t113 false)))))) else (rotuletlaw02_CastBetween.j0 k a0 a1 a2 t113 true)))
theorem rotuletlaw02_CastBetween.mono_l : ∀ k, (∀ y0 y1 y2 y3 y4, LeO (rotuletlaw02_CastBetween.j0 k y0 y1 y2 y3 y4) (rotuletlaw02_CastBetween.j0 (k + 1) y0 y1 y2 y3 y4))
  | 0 => fun _ _ _ _ _ r h => by simp [rotuletlaw02_CastBetween.j0] at h
  | k + 1 => by
    have ih0 := rotuletlaw02_CastBetween.mono_l k
    · intro y0 y1 y2 y3 y4
      unfold rotuletlaw02_CastBetween.j0
      repeat' first
      | (with_reducible exact ih0 _ _ _ _ _)
      | (with_reducible exact LeO.refl _)
      | (with_reducible exact LeO.none _)
      | (with_reducible refine LeO.ite ?_ ?_)
      | (with_reducible refine LeO.bind ?_ (fun _ => ?_))
      | exact ih0 _ _ _ _ _
      | exact LeO.none _
      | refine LeO.ite ?_ ?_
      | refine LeO.bind ?_ (fun _ => ?_)
theorem rotuletlaw02_CastBetween.mono : ∀ a0 a1 a2 k, LeO (rotuletlaw02_CastBetween.f k a0 a1 a2) (rotuletlaw02_CastBetween.f (k + 1) a0 a1 a2) := by
  intro a0 a1 a2 k
  have ih0 := rotuletlaw02_CastBetween.mono_l k
  unfold rotuletlaw02_CastBetween.f
  repeat' first
      | (with_reducible exact ih0 _ _ _ _ _)
      | (with_reducible exact LeO.refl _)
      | (with_reducible exact LeO.none _)
      | (with_reducible refine LeO.ite ?_ ?_)
      | (with_reducible refine LeO.bind ?_ (fun _ => ?_))
      | exact ih0 _ _ _ _ _
      | exact LeO.none _
      | refine LeO.ite ?_ ?_
      | refine LeO.bind ?_ (fun _ => ?_)
set_option maxHeartbeats 8000000 in
set_option maxRecDepth 100000 in
theorem rotuletlaw02_CastBetween.calls (k : Nat) (a0 : Int) (a1 : Int) (a2 : Int) (r : Bool) (hrt : r = true) (w : World) (h : rotuletlaw02_CastBetween.f k a0 a1 a2 = some r) :
    Calls Try.prog 5 #[.int .i64 a0, .int .i64 a1, .int .i64 a2] w fun e w' => e = .returned (.bool r) ∧ Below w.heap.size w w' := by
  have HRT := Aside0.mk hrt
  clear hrt
  have HB := Aside0.mk (Below.refl w.heap.size w)
  have H : ((cast_Between.f a0 a1 a2).bind fun t113 => ((cast_Between.f a0 a2 a1).bind fun t114 => (if t113 = t114 then (if t113 < (mn a1 a2) then (rotuletlaw02_CastBetween.j0 k a0 a1 a2 t113 true) else (if t113 > (mx a1 a2) then (rotuletlaw02_CastBetween.j0 k a0 a1 a2 t113 true) else (if a0 ≥ (mn a1 a2) then (if a0 ≤ (mx a1 a2) then (if t113 = a0 then (if a0 < (mn a1 a2) then (if t113 = (mn a1 a2) then (if a0 > (mx a1 a2) then (rotuletlaw02_CastBetween.j0 k a0 a1 a2 t113 (t113 != (mx a1 a2))) else (rotuletlaw02_CastBetween.j0 k a0 a1 a2 t113 false)) else (rotuletlaw02_CastBetween.j0 k a0 a1 a2 t113 true)) else (if a0 > (mx a1 a2) then (rotuletlaw02_CastBetween.j0 k a0 a1 a2 t113 (t113 != (mx a1 a2))) else (rotuletlaw02_CastBetween.j0 k a0 a1 a2 t113 false))) else (rotuletlaw02_CastBetween.j0 k a0 a1 a2 t113 true)) else (if a0 < (mn a1 a2) then (if t113 = (mn a1 a2) then (if a0 > (mx a1 a2) then (rotuletlaw02_CastBetween.j0 k a0 a1 a2 t113 (t113 != (mx a1 a2))) else (rotuletlaw02_CastBetween.j0 k a0 a1 a2 t113 false)) else (rotuletlaw02_CastBetween.j0 k a0 a1 a2 t113 true)) else (if a0 > (mx a1 a2) then (rotuletlaw02_CastBetween.j0 k a0 a1 a2 t113 (t113 != (mx a1 a2))) else (rotuletlaw02_CastBetween.j0 k a0 a1 a2 t113 false)))) else (if a0 < (mn a1 a2) then (if t113 = (mn a1 a2) then (if a0 > (mx a1 a2) then (rotuletlaw02_CastBetween.j0 k a0 a1 a2 t113 (t113 != (mx a1 a2))) else (rotuletlaw02_CastBetween.j0 k a0 a1 a2 t113 false)) else (rotuletlaw02_CastBetween.j0 k a0 a1 a2 t113 true)) else (if a0 > (mx a1 a2) then (rotuletlaw02_CastBetween.j0 k a0 a1 a2 t113 (t113 != (mx a1 a2))) else (rotuletlaw02_CastBetween.j0 k a0 a1 a2 t113 false)))))) else (rotuletlaw02_CastBetween.j0 k a0 a1 a2 t113 true)))) = some r := h
  clear h
  replace H := Option.bind_eq_some_iff.mp H
  obtain ⟨t113, A40, H⟩ := H
  replace H : ((cast_Between.f a0 a2 a1).bind fun t114 => (if t113 = t114 then (if t113 < (mn a1 a2) then (rotuletlaw02_CastBetween.j0 k a0 a1 a2 t113 true) else (if t113 > (mx a1 a2) then (rotuletlaw02_CastBetween.j0 k a0 a1 a2 t113 true) else (if a0 ≥ (mn a1 a2) then (if a0 ≤ (mx a1 a2) then (if t113 = a0 then (if a0 < (mn a1 a2) then (if t113 = (mn a1 a2) then (if a0 > (mx a1 a2) then (rotuletlaw02_CastBetween.j0 k a0 a1 a2 t113 (t113 != (mx a1 a2))) else (rotuletlaw02_CastBetween.j0 k a0 a1 a2 t113 false)) else (rotuletlaw02_CastBetween.j0 k a0 a1 a2 t113 true)) else (if a0 > (mx a1 a2) then (rotuletlaw02_CastBetween.j0 k a0 a1 a2 t113 (t113 != (mx a1 a2))) else (rotuletlaw02_CastBetween.j0 k a0 a1 a2 t113 false))) else (rotuletlaw02_CastBetween.j0 k a0 a1 a2 t113 true)) else (if a0 < (mn a1 a2) then (if t113 = (mn a1 a2) then (if a0 > (mx a1 a2) then (rotuletlaw02_CastBetween.j0 k a0 a1 a2 t113 (t113 != (mx a1 a2))) else (rotuletlaw02_CastBetween.j0 k a0 a1 a2 t113 false)) else (rotuletlaw02_CastBetween.j0 k a0 a1 a2 t113 true)) else (if a0 > (mx a1 a2) then (rotuletlaw02_CastBetween.j0 k a0 a1 a2 t113 (t113 != (mx a1 a2))) else (rotuletlaw02_CastBetween.j0 k a0 a1 a2 t113 false)))) else (if a0 < (mn a1 a2) then (if t113 = (mn a1 a2) then (if a0 > (mx a1 a2) then (rotuletlaw02_CastBetween.j0 k a0 a1 a2 t113 (t113 != (mx a1 a2))) else (rotuletlaw02_CastBetween.j0 k a0 a1 a2 t113 false)) else (rotuletlaw02_CastBetween.j0 k a0 a1 a2 t113 true)) else (if a0 > (mx a1 a2) then (rotuletlaw02_CastBetween.j0 k a0 a1 a2 t113 (t113 != (mx a1 a2))) else (rotuletlaw02_CastBetween.j0 k a0 a1 a2 t113 false)))))) else (rotuletlaw02_CastBetween.j0 k a0 a1 a2 t113 true))) = some r := H
  have A4 := Aside0.mk A40
  clear A40
  obtain ⟨ji5, hji5⟩ : ∃ j_ : Int, (mn a1 a2) = j_ := ⟨_, rfl⟩
  replace H : ((cast_Between.f a0 a2 a1).bind fun t114 => (if t113 = t114 then (if t113 < (ji5) then (rotuletlaw02_CastBetween.j0 k a0 a1 a2 t113 true) else (if t113 > (mx a1 a2) then (rotuletlaw02_CastBetween.j0 k a0 a1 a2 t113 true) else (if a0 ≥ (ji5) then (if a0 ≤ (mx a1 a2) then (if t113 = a0 then (if a0 < (ji5) then (if t113 = (ji5) then (if a0 > (mx a1 a2) then (rotuletlaw02_CastBetween.j0 k a0 a1 a2 t113 (t113 != (mx a1 a2))) else (rotuletlaw02_CastBetween.j0 k a0 a1 a2 t113 false)) else (rotuletlaw02_CastBetween.j0 k a0 a1 a2 t113 true)) else (if a0 > (mx a1 a2) then (rotuletlaw02_CastBetween.j0 k a0 a1 a2 t113 (t113 != (mx a1 a2))) else (rotuletlaw02_CastBetween.j0 k a0 a1 a2 t113 false))) else (rotuletlaw02_CastBetween.j0 k a0 a1 a2 t113 true)) else (if a0 < (ji5) then (if t113 = (ji5) then (if a0 > (mx a1 a2) then (rotuletlaw02_CastBetween.j0 k a0 a1 a2 t113 (t113 != (mx a1 a2))) else (rotuletlaw02_CastBetween.j0 k a0 a1 a2 t113 false)) else (rotuletlaw02_CastBetween.j0 k a0 a1 a2 t113 true)) else (if a0 > (mx a1 a2) then (rotuletlaw02_CastBetween.j0 k a0 a1 a2 t113 (t113 != (mx a1 a2))) else (rotuletlaw02_CastBetween.j0 k a0 a1 a2 t113 false)))) else (if a0 < (ji5) then (if t113 = (ji5) then (if a0 > (mx a1 a2) then (rotuletlaw02_CastBetween.j0 k a0 a1 a2 t113 (t113 != (mx a1 a2))) else (rotuletlaw02_CastBetween.j0 k a0 a1 a2 t113 false)) else (rotuletlaw02_CastBetween.j0 k a0 a1 a2 t113 true)) else (if a0 > (mx a1 a2) then (rotuletlaw02_CastBetween.j0 k a0 a1 a2 t113 (t113 != (mx a1 a2))) else (rotuletlaw02_CastBetween.j0 k a0 a1 a2 t113 false)))))) else (rotuletlaw02_CastBetween.j0 k a0 a1 a2 t113 true))) = some r := by first | (rw [hji5] at H; exact H) | (simp only [hji5] at H ⊢; exact H)
  (try rw [hji5] at A4)
  have hji5_ : (if a2 < a1 then a2 else a1) = ji5 := hji5
  obtain ⟨ji6, hji6⟩ : ∃ j_ : Int, (mx a1 a2) = j_ := ⟨_, rfl⟩
  replace H : ((cast_Between.f a0 a2 a1).bind fun t114 => (if t113 = t114 then (if t113 < (ji5) then (rotuletlaw02_CastBetween.j0 k a0 a1 a2 t113 true) else (if t113 > (ji6) then (rotuletlaw02_CastBetween.j0 k a0 a1 a2 t113 true) else (if a0 ≥ (ji5) then (if a0 ≤ (ji6) then (if t113 = a0 then (if a0 < (ji5) then (if t113 = (ji5) then (if a0 > (ji6) then (rotuletlaw02_CastBetween.j0 k a0 a1 a2 t113 (t113 != (ji6))) else (rotuletlaw02_CastBetween.j0 k a0 a1 a2 t113 false)) else (rotuletlaw02_CastBetween.j0 k a0 a1 a2 t113 true)) else (if a0 > (ji6) then (rotuletlaw02_CastBetween.j0 k a0 a1 a2 t113 (t113 != (ji6))) else (rotuletlaw02_CastBetween.j0 k a0 a1 a2 t113 false))) else (rotuletlaw02_CastBetween.j0 k a0 a1 a2 t113 true)) else (if a0 < (ji5) then (if t113 = (ji5) then (if a0 > (ji6) then (rotuletlaw02_CastBetween.j0 k a0 a1 a2 t113 (t113 != (ji6))) else (rotuletlaw02_CastBetween.j0 k a0 a1 a2 t113 false)) else (rotuletlaw02_CastBetween.j0 k a0 a1 a2 t113 true)) else (if a0 > (ji6) then (rotuletlaw02_CastBetween.j0 k a0 a1 a2 t113 (t113 != (ji6))) else (rotuletlaw02_CastBetween.j0 k a0 a1 a2 t113 false)))) else (if a0 < (ji5) then (if t113 = (ji5) then (if a0 > (ji6) then (rotuletlaw02_CastBetween.j0 k a0 a1 a2 t113 (t113 != (ji6))) else (rotuletlaw02_CastBetween.j0 k a0 a1 a2 t113 false)) else (rotuletlaw02_CastBetween.j0 k a0 a1 a2 t113 true)) else (if a0 > (ji6) then (rotuletlaw02_CastBetween.j0 k a0 a1 a2 t113 (t113 != (ji6))) else (rotuletlaw02_CastBetween.j0 k a0 a1 a2 t113 false)))))) else (rotuletlaw02_CastBetween.j0 k a0 a1 a2 t113 true))) = some r := by first | (rw [hji6] at H; exact H) | (simp only [hji6] at H ⊢; exact H)
  (try rw [hji6] at A4)
  have hji6_ : (if a1 < a2 then a2 else a1) = ji6 := hji6
  have HC7 := Aside0.mk H
  clear H
  go_enter Try.func5, Try.ntmps5
  go_upto_region 4 with (first | ((with_reducible refine gate_callee (f := 17) rfl ?_); refine goesL_ (some 13) rfl rfl Try.func17 (by kernel_rfl) rfl #[.int .i64 a0, .int .i64 a1, .int .i64 a2] rfl (by (try simp only [List.map_toArray, List.map_cons, List.map_nil]); first | done | rfl | (simp only [List.length_drop, List.length_take]; rfl)) ?_; (with_reducible refine (cast_Between.calls a0 a1 a2 t113 _ A4.out).mono ?_); rintro e w8 ⟨rfl, hb⟩; refine ⟨_, rfl, ?_⟩; have n0_ := Aside0.mk (below_step (by repeat (first | (with_reducible first | exact HB.out | apply below_alloc | apply pw_below_drewN | apply below_drew1) | exact HB.out)) hb); clear HB; have HB := n0_; clear n0_; (try clear hb); (try clear hb2); (try clear hk); (try clear hi)))
  (try simp only [Act.put, List.setIfInBounds_toArray, List.set_cons_zero, List.set_cons_succ])
  go_cut [70] (fun v70 wc => ∃ (kq : Nat) (x70_6 : Bool), v70 = .bool x70_6 ∧ Aside0 (rotuletlaw02_CastBetween.j0 kq a0 a1 a2 t113 x70_6 = some r) ∧ Aside0 (kq ≤ k) ∧ Aside0 (Below w.heap.size w wc))
  case first =>
    have H := HC7.out
    clear HC7
    replace H := Option.bind_eq_some_iff.mp H
    obtain ⟨t114, A90, H⟩ := H
    replace H : (if t113 = t114 then (if t113 < (ji5) then (rotuletlaw02_CastBetween.j0 k a0 a1 a2 t113 true) else (if t113 > (ji6) then (rotuletlaw02_CastBetween.j0 k a0 a1 a2 t113 true) else (if a0 ≥ (ji5) then (if a0 ≤ (ji6) then (if t113 = a0 then (if a0 < (ji5) then (if t113 = (ji5) then (if a0 > (ji6) then (rotuletlaw02_CastBetween.j0 k a0 a1 a2 t113 (t113 != (ji6))) else (rotuletlaw02_CastBetween.j0 k a0 a1 a2 t113 false)) else (rotuletlaw02_CastBetween.j0 k a0 a1 a2 t113 true)) else (if a0 > (ji6) then (rotuletlaw02_CastBetween.j0 k a0 a1 a2 t113 (t113 != (ji6))) else (rotuletlaw02_CastBetween.j0 k a0 a1 a2 t113 false))) else (rotuletlaw02_CastBetween.j0 k a0 a1 a2 t113 true)) else (if a0 < (ji5) then (if t113 = (ji5) then (if a0 > (ji6) then (rotuletlaw02_CastBetween.j0 k a0 a1 a2 t113 (t113 != (ji6))) else (rotuletlaw02_CastBetween.j0 k a0 a1 a2 t113 false)) else (rotuletlaw02_CastBetween.j0 k a0 a1 a2 t113 true)) else (if a0 > (ji6) then (rotuletlaw02_CastBetween.j0 k a0 a1 a2 t113 (t113 != (ji6))) else (rotuletlaw02_CastBetween.j0 k a0 a1 a2 t113 false)))) else (if a0 < (ji5) then (if t113 = (ji5) then (if a0 > (ji6) then (rotuletlaw02_CastBetween.j0 k a0 a1 a2 t113 (t113 != (ji6))) else (rotuletlaw02_CastBetween.j0 k a0 a1 a2 t113 false)) else (rotuletlaw02_CastBetween.j0 k a0 a1 a2 t113 true)) else (if a0 > (ji6) then (rotuletlaw02_CastBetween.j0 k a0 a1 a2 t113 (t113 != (ji6))) else (rotuletlaw02_CastBetween.j0 k a0 a1 a2 t113 false)))))) else (rotuletlaw02_CastBetween.j0 k a0 a1 a2 t113 true)) = some r := H
    have A9 := Aside0.mk A90
    clear A90
    by_cases c10 : t113 = t114
    · rw [if_pos c10] at H
      have c10b0 : (t113 == t114) = true := beq_iff_eq.mpr c10
      have c10b1 : (t113 != t114) = false := bne_eq_false_iff_eq.mpr c10
      clear c10
      (first | rw [c10b0] | (simp only [i64_w, i32_w]; rw [c10b0]) | skip)
      by_cases c11 : t113 < (ji5)
      · rw [if_pos c11] at H
        have c11b0 : decide (t113 < (ji5)) = true := decide_eq_true c11
        clear c11
        have H' := Aside0.mk H
        clear H
        go_wp2_with (first | ((with_reducible refine gate_callee (f := 17) rfl ?_); refine goesL_ (some 24) rfl rfl Try.func17 (by kernel_rfl) rfl #[.int .i64 a0, .int .i64 a2, .int .i64 a1] rfl (by (try simp only [List.map_toArray, List.map_cons, List.map_nil]); first | done | rfl | (simp only [List.length_drop, List.length_take]; rfl)) ?_; (with_reducible refine (cast_Between.calls a0 a2 a1 t114 _ A9.out).mono ?_); rintro e w12 ⟨rfl, hb⟩; refine ⟨_, rfl, ?_⟩; have n0_ := Aside0.mk (below_step (by repeat (first | (with_reducible first | exact HB.out | apply below_alloc | apply pw_below_drewN | apply below_drew1) | exact HB.out)) hb); clear HB; have HB := n0_; clear n0_; (try clear hb); (try clear hb2); (try clear hk); (try clear hi)))
        go_meet
        case rel => exact ⟨_, (true), (by first | rfl | (simp; done) | (simp [*]; done)), H', ⟨by first | omega | exact Nat.le_refl _⟩, ⟨by repeat (first | (with_reducible first | exact HB.out | apply below_alloc | apply pw_below_drewN | apply below_drew1) | exact HB.out)⟩⟩
      · rw [if_neg c11] at H
        have c11b0 : decide (t113 < (ji5)) = false := decide_eq_false c11
        clear c11
        by_cases c13 : t113 > (ji6)
        · rw [if_pos c13] at H
          have c13b0 : decide ((ji6) < t113) = true := decide_eq_true c13
          clear c13
          have H' := Aside0.mk H
          clear H
          go_wp2_with (first | ((with_reducible refine gate_callee (f := 17) rfl ?_); refine goesL_ (some 24) rfl rfl Try.func17 (by kernel_rfl) rfl #[.int .i64 a0, .int .i64 a2, .int .i64 a1] rfl (by (try simp only [List.map_toArray, List.map_cons, List.map_nil]); first | done | rfl | (simp only [List.length_drop, List.length_take]; rfl)) ?_; (with_reducible refine (cast_Between.calls a0 a2 a1 t114 _ A9.out).mono ?_); rintro e w14 ⟨rfl, hb⟩; refine ⟨_, rfl, ?_⟩; have n0_ := Aside0.mk (below_step (by repeat (first | (with_reducible first | exact HB.out | apply below_alloc | apply pw_below_drewN | apply below_drew1) | exact HB.out)) hb); clear HB; have HB := n0_; clear n0_; (try clear hb); (try clear hb2); (try clear hk); (try clear hi)))
          go_meet
          case rel => exact ⟨_, (true), (by first | rfl | (simp; done) | (simp [*]; done)), H', ⟨by first | omega | exact Nat.le_refl _⟩, ⟨by repeat (first | (with_reducible first | exact HB.out | apply below_alloc | apply pw_below_drewN | apply below_drew1) | exact HB.out)⟩⟩
        · rw [if_neg c13] at H
          have c13b0 : decide ((ji6) < t113) = false := decide_eq_false c13
          clear c13
          by_cases c15 : a0 ≥ (ji5)
          · rw [if_pos c15] at H
            have c15b0 : decide ((ji5) ≤ a0) = true := decide_eq_true c15
            clear c15
            by_cases c16 : a0 ≤ (ji6)
            · rw [if_pos c16] at H
              have c16b0 : decide (a0 ≤ (ji6)) = true := decide_eq_true c16
              clear c16
              by_cases c17 : t113 = a0
              · rw [if_pos c17] at H
                have c17b0 : (t113 == a0) = true := beq_iff_eq.mpr c17
                have c17b1 : (t113 != a0) = false := bne_eq_false_iff_eq.mpr c17
                clear c17
                by_cases c18 : a0 < (ji5)
                · rw [if_pos c18] at H
                  have c18b0 : decide (a0 < (ji5)) = true := decide_eq_true c18
                  clear c18
                  by_cases c19 : t113 = (ji5)
                  · rw [if_pos c19] at H
                    have c19b0 : (t113 == (ji5)) = true := beq_iff_eq.mpr c19
                    have c19b1 : (t113 != (ji5)) = false := bne_eq_false_iff_eq.mpr c19
                    clear c19
                    by_cases c20 : a0 > (ji6)
                    · rw [if_pos c20] at H
                      have c20b0 : decide ((ji6) < a0) = true := decide_eq_true c20
                      clear c20
                      have H' := Aside0.mk H
                      clear H
                      go_wp2_with (first | ((with_reducible refine gate_callee (f := 17) rfl ?_); refine goesL_ (some 24) rfl rfl Try.func17 (by kernel_rfl) rfl #[.int .i64 a0, .int .i64 a2, .int .i64 a1] rfl (by (try simp only [List.map_toArray, List.map_cons, List.map_nil]); first | done | rfl | (simp only [List.length_drop, List.length_take]; rfl)) ?_; (with_reducible refine (cast_Between.calls a0 a2 a1 t114 _ A9.out).mono ?_); rintro e w21 ⟨rfl, hb⟩; refine ⟨_, rfl, ?_⟩; have n0_ := Aside0.mk (below_step (by repeat (first | (with_reducible first | exact HB.out | apply below_alloc | apply pw_below_drewN | apply below_drew1) | exact HB.out)) hb); clear HB; have HB := n0_; clear n0_; (try clear hb); (try clear hb2); (try clear hk); (try clear hi)))
                      go_meet
                      case rel => exact ⟨_, ((t113 != (ji6))), (by first | rfl | (simp; done) | (simp only [← hji6] <;> (first | rfl | simp)) | (simp [*]; done)), H', ⟨by first | omega | exact Nat.le_refl _⟩, ⟨by repeat (first | (with_reducible first | exact HB.out | apply below_alloc | apply pw_below_drewN | apply below_drew1) | exact HB.out)⟩⟩
                    · rw [if_neg c20] at H
                      have c20b0 : decide ((ji6) < a0) = false := decide_eq_false c20
                      clear c20
                      have H' := Aside0.mk H
                      clear H
                      go_wp2_with (first | ((with_reducible refine gate_callee (f := 17) rfl ?_); refine goesL_ (some 24) rfl rfl Try.func17 (by kernel_rfl) rfl #[.int .i64 a0, .int .i64 a2, .int .i64 a1] rfl (by (try simp only [List.map_toArray, List.map_cons, List.map_nil]); first | done | rfl | (simp only [List.length_drop, List.length_take]; rfl)) ?_; (with_reducible refine (cast_Between.calls a0 a2 a1 t114 _ A9.out).mono ?_); rintro e w22 ⟨rfl, hb⟩; refine ⟨_, rfl, ?_⟩; have n0_ := Aside0.mk (below_step (by repeat (first | (with_reducible first | exact HB.out | apply below_alloc | apply pw_below_drewN | apply below_drew1) | exact HB.out)) hb); clear HB; have HB := n0_; clear n0_; (try clear hb); (try clear hb2); (try clear hk); (try clear hi)))
                      go_meet
                      case rel => exact ⟨_, (false), (by first | rfl | (simp; done) | (simp [*]; done)), H', ⟨by first | omega | exact Nat.le_refl _⟩, ⟨by repeat (first | (with_reducible first | exact HB.out | apply below_alloc | apply pw_below_drewN | apply below_drew1) | exact HB.out)⟩⟩
                  · rw [if_neg c19] at H
                    have c19b0 : (t113 == (ji5)) = false := beq_eq_false_iff_ne.mpr c19
                    have c19b1 : (t113 != (ji5)) = true := bne_iff_ne.mpr c19
                    have H' := Aside0.mk H
                    clear H
                    go_wp2_with (first | ((with_reducible refine gate_callee (f := 17) rfl ?_); refine goesL_ (some 24) rfl rfl Try.func17 (by kernel_rfl) rfl #[.int .i64 a0, .int .i64 a2, .int .i64 a1] rfl (by (try simp only [List.map_toArray, List.map_cons, List.map_nil]); first | done | rfl | (simp only [List.length_drop, List.length_take]; rfl)) ?_; (with_reducible refine (cast_Between.calls a0 a2 a1 t114 _ A9.out).mono ?_); rintro e w23 ⟨rfl, hb⟩; refine ⟨_, rfl, ?_⟩; have n0_ := Aside0.mk (below_step (by repeat (first | (with_reducible first | exact HB.out | apply below_alloc | apply pw_below_drewN | apply below_drew1) | exact HB.out)) hb); clear HB; have HB := n0_; clear n0_; (try clear hb); (try clear hb2); (try clear hk); (try clear hi)))
                    go_meet
                    case rel => exact ⟨_, (true), (by first | rfl | (simp; done) | (simp [*]; done)), H', ⟨by first | omega | exact Nat.le_refl _⟩, ⟨by repeat (first | (with_reducible first | exact HB.out | apply below_alloc | apply pw_below_drewN | apply below_drew1) | exact HB.out)⟩⟩
                · rw [if_neg c18] at H
                  have c18b0 : decide (a0 < (ji5)) = false := decide_eq_false c18
                  clear c18
                  by_cases c24 : a0 > (ji6)
                  · rw [if_pos c24] at H
                    have c24b0 : decide ((ji6) < a0) = true := decide_eq_true c24
                    clear c24
                    have H' := Aside0.mk H
                    clear H
                    go_wp2_with (first | ((with_reducible refine gate_callee (f := 17) rfl ?_); refine goesL_ (some 24) rfl rfl Try.func17 (by kernel_rfl) rfl #[.int .i64 a0, .int .i64 a2, .int .i64 a1] rfl (by (try simp only [List.map_toArray, List.map_cons, List.map_nil]); first | done | rfl | (simp only [List.length_drop, List.length_take]; rfl)) ?_; (with_reducible refine (cast_Between.calls a0 a2 a1 t114 _ A9.out).mono ?_); rintro e w25 ⟨rfl, hb⟩; refine ⟨_, rfl, ?_⟩; have n0_ := Aside0.mk (below_step (by repeat (first | (with_reducible first | exact HB.out | apply below_alloc | apply pw_below_drewN | apply below_drew1) | exact HB.out)) hb); clear HB; have HB := n0_; clear n0_; (try clear hb); (try clear hb2); (try clear hk); (try clear hi)))
                    go_meet
                    case rel => exact ⟨_, ((t113 != (ji6))), (by first | rfl | (simp; done) | (simp only [← hji6] <;> (first | rfl | simp)) | (simp [*]; done)), H', ⟨by first | omega | exact Nat.le_refl _⟩, ⟨by repeat (first | (with_reducible first | exact HB.out | apply below_alloc | apply pw_below_drewN | apply below_drew1) | exact HB.out)⟩⟩
                  · rw [if_neg c24] at H
                    have c24b0 : decide ((ji6) < a0) = false := decide_eq_false c24
                    clear c24
                    have H' := Aside0.mk H
                    clear H
                    go_wp2_with (first | ((with_reducible refine gate_callee (f := 17) rfl ?_); refine goesL_ (some 24) rfl rfl Try.func17 (by kernel_rfl) rfl #[.int .i64 a0, .int .i64 a2, .int .i64 a1] rfl (by (try simp only [List.map_toArray, List.map_cons, List.map_nil]); first | done | rfl | (simp only [List.length_drop, List.length_take]; rfl)) ?_; (with_reducible refine (cast_Between.calls a0 a2 a1 t114 _ A9.out).mono ?_); rintro e w26 ⟨rfl, hb⟩; refine ⟨_, rfl, ?_⟩; have n0_ := Aside0.mk (below_step (by repeat (first | (with_reducible first | exact HB.out | apply below_alloc | apply pw_below_drewN | apply below_drew1) | exact HB.out)) hb); clear HB; have HB := n0_; clear n0_; (try clear hb); (try clear hb2); (try clear hk); (try clear hi)))
                    go_meet
                    case rel => exact ⟨_, (false), (by first | rfl | (simp; done) | (simp [*]; done)), H', ⟨by first | omega | exact Nat.le_refl _⟩, ⟨by repeat (first | (with_reducible first | exact HB.out | apply below_alloc | apply pw_below_drewN | apply below_drew1) | exact HB.out)⟩⟩
              · rw [if_neg c17] at H
                have c17b0 : (t113 == a0) = false := beq_eq_false_iff_ne.mpr c17
                have c17b1 : (t113 != a0) = true := bne_iff_ne.mpr c17
                have H' := Aside0.mk H
                clear H
                go_wp2_with (first | ((with_reducible refine gate_callee (f := 17) rfl ?_); refine goesL_ (some 24) rfl rfl Try.func17 (by kernel_rfl) rfl #[.int .i64 a0, .int .i64 a2, .int .i64 a1] rfl (by (try simp only [List.map_toArray, List.map_cons, List.map_nil]); first | done | rfl | (simp only [List.length_drop, List.length_take]; rfl)) ?_; (with_reducible refine (cast_Between.calls a0 a2 a1 t114 _ A9.out).mono ?_); rintro e w27 ⟨rfl, hb⟩; refine ⟨_, rfl, ?_⟩; have n0_ := Aside0.mk (below_step (by repeat (first | (with_reducible first | exact HB.out | apply below_alloc | apply pw_below_drewN | apply below_drew1) | exact HB.out)) hb); clear HB; have HB := n0_; clear n0_; (try clear hb); (try clear hb2); (try clear hk); (try clear hi)))
                go_meet
                case rel => exact ⟨_, (true), (by first | rfl | (simp; done) | (simp [*]; done)), H', ⟨by first | omega | exact Nat.le_refl _⟩, ⟨by repeat (first | (with_reducible first | exact HB.out | apply below_alloc | apply pw_below_drewN | apply below_drew1) | exact HB.out)⟩⟩
            · rw [if_neg c16] at H
              have c16b0 : decide (a0 ≤ (ji6)) = false := decide_eq_false c16
              clear c16
              by_cases c28 : a0 < (ji5)
              · rw [if_pos c28] at H
                have c28b0 : decide (a0 < (ji5)) = true := decide_eq_true c28
                clear c28
                by_cases c29 : t113 = (ji5)
                · rw [if_pos c29] at H
                  have c29b0 : (t113 == (ji5)) = true := beq_iff_eq.mpr c29
                  have c29b1 : (t113 != (ji5)) = false := bne_eq_false_iff_eq.mpr c29
                  clear c29
                  by_cases c30 : a0 > (ji6)
                  · rw [if_pos c30] at H
                    have c30b0 : decide ((ji6) < a0) = true := decide_eq_true c30
                    clear c30
                    have H' := Aside0.mk H
                    clear H
                    go_wp2_with (first | ((with_reducible refine gate_callee (f := 17) rfl ?_); refine goesL_ (some 24) rfl rfl Try.func17 (by kernel_rfl) rfl #[.int .i64 a0, .int .i64 a2, .int .i64 a1] rfl (by (try simp only [List.map_toArray, List.map_cons, List.map_nil]); first | done | rfl | (simp only [List.length_drop, List.length_take]; rfl)) ?_; (with_reducible refine (cast_Between.calls a0 a2 a1 t114 _ A9.out).mono ?_); rintro e w31 ⟨rfl, hb⟩; refine ⟨_, rfl, ?_⟩; have n0_ := Aside0.mk (below_step (by repeat (first | (with_reducible first | exact HB.out | apply below_alloc | apply pw_below_drewN | apply below_drew1) | exact HB.out)) hb); clear HB; have HB := n0_; clear n0_; (try clear hb); (try clear hb2); (try clear hk); (try clear hi)))
                    go_meet
                    case rel => exact ⟨_, ((t113 != (ji6))), (by first | rfl | (simp; done) | (simp only [← hji6] <;> (first | rfl | simp)) | (simp [*]; done)), H', ⟨by first | omega | exact Nat.le_refl _⟩, ⟨by repeat (first | (with_reducible first | exact HB.out | apply below_alloc | apply pw_below_drewN | apply below_drew1) | exact HB.out)⟩⟩
                  · rw [if_neg c30] at H
                    have c30b0 : decide ((ji6) < a0) = false := decide_eq_false c30
                    clear c30
                    have H' := Aside0.mk H
                    clear H
                    go_wp2_with (first | ((with_reducible refine gate_callee (f := 17) rfl ?_); refine goesL_ (some 24) rfl rfl Try.func17 (by kernel_rfl) rfl #[.int .i64 a0, .int .i64 a2, .int .i64 a1] rfl (by (try simp only [List.map_toArray, List.map_cons, List.map_nil]); first | done | rfl | (simp only [List.length_drop, List.length_take]; rfl)) ?_; (with_reducible refine (cast_Between.calls a0 a2 a1 t114 _ A9.out).mono ?_); rintro e w32 ⟨rfl, hb⟩; refine ⟨_, rfl, ?_⟩; have n0_ := Aside0.mk (below_step (by repeat (first | (with_reducible first | exact HB.out | apply below_alloc | apply pw_below_drewN | apply below_drew1) | exact HB.out)) hb); clear HB; have HB := n0_; clear n0_; (try clear hb); (try clear hb2); (try clear hk); (try clear hi)))
                    go_meet
                    case rel => exact ⟨_, (false), (by first | rfl | (simp; done) | (simp [*]; done)), H', ⟨by first | omega | exact Nat.le_refl _⟩, ⟨by repeat (first | (with_reducible first | exact HB.out | apply below_alloc | apply pw_below_drewN | apply below_drew1) | exact HB.out)⟩⟩
                · rw [if_neg c29] at H
                  have c29b0 : (t113 == (ji5)) = false := beq_eq_false_iff_ne.mpr c29
                  have c29b1 : (t113 != (ji5)) = true := bne_iff_ne.mpr c29
                  have H' := Aside0.mk H
                  clear H
                  go_wp2_with (first | ((with_reducible refine gate_callee (f := 17) rfl ?_); refine goesL_ (some 24) rfl rfl Try.func17 (by kernel_rfl) rfl #[.int .i64 a0, .int .i64 a2, .int .i64 a1] rfl (by (try simp only [List.map_toArray, List.map_cons, List.map_nil]); first | done | rfl | (simp only [List.length_drop, List.length_take]; rfl)) ?_; (with_reducible refine (cast_Between.calls a0 a2 a1 t114 _ A9.out).mono ?_); rintro e w33 ⟨rfl, hb⟩; refine ⟨_, rfl, ?_⟩; have n0_ := Aside0.mk (below_step (by repeat (first | (with_reducible first | exact HB.out | apply below_alloc | apply pw_below_drewN | apply below_drew1) | exact HB.out)) hb); clear HB; have HB := n0_; clear n0_; (try clear hb); (try clear hb2); (try clear hk); (try clear hi)))
                  go_meet
                  case rel => exact ⟨_, (true), (by first | rfl | (simp; done) | (simp [*]; done)), H', ⟨by first | omega | exact Nat.le_refl _⟩, ⟨by repeat (first | (with_reducible first | exact HB.out | apply below_alloc | apply pw_below_drewN | apply below_drew1) | exact HB.out)⟩⟩
              · rw [if_neg c28] at H
                have c28b0 : decide (a0 < (ji5)) = false := decide_eq_false c28
                clear c28
                by_cases c34 : a0 > (ji6)
                · rw [if_pos c34] at H
                  have c34b0 : decide ((ji6) < a0) = true := decide_eq_true c34
                  clear c34
                  have H' := Aside0.mk H
                  clear H
                  go_wp2_with (first | ((with_reducible refine gate_callee (f := 17) rfl ?_); refine goesL_ (some 24) rfl rfl Try.func17 (by kernel_rfl) rfl #[.int .i64 a0, .int .i64 a2, .int .i64 a1] rfl (by (try simp only [List.map_toArray, List.map_cons, List.map_nil]); first | done | rfl | (simp only [List.length_drop, List.length_take]; rfl)) ?_; (with_reducible refine (cast_Between.calls a0 a2 a1 t114 _ A9.out).mono ?_); rintro e w35 ⟨rfl, hb⟩; refine ⟨_, rfl, ?_⟩; have n0_ := Aside0.mk (below_step (by repeat (first | (with_reducible first | exact HB.out | apply below_alloc | apply pw_below_drewN | apply below_drew1) | exact HB.out)) hb); clear HB; have HB := n0_; clear n0_; (try clear hb); (try clear hb2); (try clear hk); (try clear hi)))
                  go_meet
                  case rel => exact ⟨_, ((t113 != (ji6))), (by first | rfl | (simp; done) | (simp only [← hji6] <;> (first | rfl | simp)) | (simp [*]; done)), H', ⟨by first | omega | exact Nat.le_refl _⟩, ⟨by repeat (first | (with_reducible first | exact HB.out | apply below_alloc | apply pw_below_drewN | apply below_drew1) | exact HB.out)⟩⟩
                · rw [if_neg c34] at H
                  have c34b0 : decide ((ji6) < a0) = false := decide_eq_false c34
                  clear c34
                  have H' := Aside0.mk H
                  clear H
                  go_wp2_with (first | ((with_reducible refine gate_callee (f := 17) rfl ?_); refine goesL_ (some 24) rfl rfl Try.func17 (by kernel_rfl) rfl #[.int .i64 a0, .int .i64 a2, .int .i64 a1] rfl (by (try simp only [List.map_toArray, List.map_cons, List.map_nil]); first | done | rfl | (simp only [List.length_drop, List.length_take]; rfl)) ?_; (with_reducible refine (cast_Between.calls a0 a2 a1 t114 _ A9.out).mono ?_); rintro e w36 ⟨rfl, hb⟩; refine ⟨_, rfl, ?_⟩; have n0_ := Aside0.mk (below_step (by repeat (first | (with_reducible first | exact HB.out | apply below_alloc | apply pw_below_drewN | apply below_drew1) | exact HB.out)) hb); clear HB; have HB := n0_; clear n0_; (try clear hb); (try clear hb2); (try clear hk); (try clear hi)))
                  go_meet
                  case rel => exact ⟨_, (false), (by first | rfl | (simp; done) | (simp [*]; done)), H', ⟨by first | omega | exact Nat.le_refl _⟩, ⟨by repeat (first | (with_reducible first | exact HB.out | apply below_alloc | apply pw_below_drewN | apply below_drew1) | exact HB.out)⟩⟩
          · rw [if_neg c15] at H
            have c15b0 : decide ((ji5) ≤ a0) = false := decide_eq_false c15
            clear c15
            by_cases c37 : a0 < (ji5)
            · rw [if_pos c37] at H
              have c37b0 : decide (a0 < (ji5)) = true := decide_eq_true c37
              clear c37
              by_cases c38 : t113 = (ji5)
              · rw [if_pos c38] at H
                have c38b0 : (t113 == (ji5)) = true := beq_iff_eq.mpr c38
                have c38b1 : (t113 != (ji5)) = false := bne_eq_false_iff_eq.mpr c38
                clear c38
                by_cases c39 : a0 > (ji6)
                · rw [if_pos c39] at H
                  have c39b0 : decide ((ji6) < a0) = true := decide_eq_true c39
                  clear c39
                  have H' := Aside0.mk H
                  clear H
                  go_wp2_with (first | ((with_reducible refine gate_callee (f := 17) rfl ?_); refine goesL_ (some 24) rfl rfl Try.func17 (by kernel_rfl) rfl #[.int .i64 a0, .int .i64 a2, .int .i64 a1] rfl (by (try simp only [List.map_toArray, List.map_cons, List.map_nil]); first | done | rfl | (simp only [List.length_drop, List.length_take]; rfl)) ?_; (with_reducible refine (cast_Between.calls a0 a2 a1 t114 _ A9.out).mono ?_); rintro e w40 ⟨rfl, hb⟩; refine ⟨_, rfl, ?_⟩; have n0_ := Aside0.mk (below_step (by repeat (first | (with_reducible first | exact HB.out | apply below_alloc | apply pw_below_drewN | apply below_drew1) | exact HB.out)) hb); clear HB; have HB := n0_; clear n0_; (try clear hb); (try clear hb2); (try clear hk); (try clear hi)))
                  go_meet
                  case rel => exact ⟨_, ((t113 != (ji6))), (by first | rfl | (simp; done) | (simp only [← hji6] <;> (first | rfl | simp)) | (simp [*]; done)), H', ⟨by first | omega | exact Nat.le_refl _⟩, ⟨by repeat (first | (with_reducible first | exact HB.out | apply below_alloc | apply pw_below_drewN | apply below_drew1) | exact HB.out)⟩⟩
                · rw [if_neg c39] at H
                  have c39b0 : decide ((ji6) < a0) = false := decide_eq_false c39
                  clear c39
                  have H' := Aside0.mk H
                  clear H
                  go_wp2_with (first | ((with_reducible refine gate_callee (f := 17) rfl ?_); refine goesL_ (some 24) rfl rfl Try.func17 (by kernel_rfl) rfl #[.int .i64 a0, .int .i64 a2, .int .i64 a1] rfl (by (try simp only [List.map_toArray, List.map_cons, List.map_nil]); first | done | rfl | (simp only [List.length_drop, List.length_take]; rfl)) ?_; (with_reducible refine (cast_Between.calls a0 a2 a1 t114 _ A9.out).mono ?_); rintro e w41 ⟨rfl, hb⟩; refine ⟨_, rfl, ?_⟩; have n0_ := Aside0.mk (below_step (by repeat (first | (with_reducible first | exact HB.out | apply below_alloc | apply pw_below_drewN | apply below_drew1) | exact HB.out)) hb); clear HB; have HB := n0_; clear n0_; (try clear hb); (try clear hb2); (try clear hk); (try clear hi)))
                  go_meet
                  case rel => exact ⟨_, (false), (by first | rfl | (simp; done) | (simp [*]; done)), H', ⟨by first | omega | exact Nat.le_refl _⟩, ⟨by repeat (first | (with_reducible first | exact HB.out | apply below_alloc | apply pw_below_drewN | apply below_drew1) | exact HB.out)⟩⟩
              · rw [if_neg c38] at H
                have c38b0 : (t113 == (ji5)) = false := beq_eq_false_iff_ne.mpr c38
                have c38b1 : (t113 != (ji5)) = true := bne_iff_ne.mpr c38
                have H' := Aside0.mk H
                clear H
                go_wp2_with (first | ((with_reducible refine gate_callee (f := 17) rfl ?_); refine goesL_ (some 24) rfl rfl Try.func17 (by kernel_rfl) rfl #[.int .i64 a0, .int .i64 a2, .int .i64 a1] rfl (by (try simp only [List.map_toArray, List.map_cons, List.map_nil]); first | done | rfl | (simp only [List.length_drop, List.length_take]; rfl)) ?_; (with_reducible refine (cast_Between.calls a0 a2 a1 t114 _ A9.out).mono ?_); rintro e w42 ⟨rfl, hb⟩; refine ⟨_, rfl, ?_⟩; have n0_ := Aside0.mk (below_step (by repeat (first | (with_reducible first | exact HB.out | apply below_alloc | apply pw_below_drewN | apply below_drew1) | exact HB.out)) hb); clear HB; have HB := n0_; clear n0_; (try clear hb); (try clear hb2); (try clear hk); (try clear hi)))
                go_meet
                case rel => exact ⟨_, (true), (by first | rfl | (simp; done) | (simp [*]; done)), H', ⟨by first | omega | exact Nat.le_refl _⟩, ⟨by repeat (first | (with_reducible first | exact HB.out | apply below_alloc | apply pw_below_drewN | apply below_drew1) | exact HB.out)⟩⟩
            · rw [if_neg c37] at H
              have c37b0 : decide (a0 < (ji5)) = false := decide_eq_false c37
              clear c37
              by_cases c43 : a0 > (ji6)
              · rw [if_pos c43] at H
                have c43b0 : decide ((ji6) < a0) = true := decide_eq_true c43
                clear c43
                have H' := Aside0.mk H
                clear H
                go_wp2_with (first | ((with_reducible refine gate_callee (f := 17) rfl ?_); refine goesL_ (some 24) rfl rfl Try.func17 (by kernel_rfl) rfl #[.int .i64 a0, .int .i64 a2, .int .i64 a1] rfl (by (try simp only [List.map_toArray, List.map_cons, List.map_nil]); first | done | rfl | (simp only [List.length_drop, List.length_take]; rfl)) ?_; (with_reducible refine (cast_Between.calls a0 a2 a1 t114 _ A9.out).mono ?_); rintro e w44 ⟨rfl, hb⟩; refine ⟨_, rfl, ?_⟩; have n0_ := Aside0.mk (below_step (by repeat (first | (with_reducible first | exact HB.out | apply below_alloc | apply pw_below_drewN | apply below_drew1) | exact HB.out)) hb); clear HB; have HB := n0_; clear n0_; (try clear hb); (try clear hb2); (try clear hk); (try clear hi)))
                go_meet
                case rel => exact ⟨_, ((t113 != (ji6))), (by first | rfl | (simp; done) | (simp only [← hji6] <;> (first | rfl | simp)) | (simp [*]; done)), H', ⟨by first | omega | exact Nat.le_refl _⟩, ⟨by repeat (first | (with_reducible first | exact HB.out | apply below_alloc | apply pw_below_drewN | apply below_drew1) | exact HB.out)⟩⟩
              · rw [if_neg c43] at H
                have c43b0 : decide ((ji6) < a0) = false := decide_eq_false c43
                clear c43
                have H' := Aside0.mk H
                clear H
                go_wp2_with (first | ((with_reducible refine gate_callee (f := 17) rfl ?_); refine goesL_ (some 24) rfl rfl Try.func17 (by kernel_rfl) rfl #[.int .i64 a0, .int .i64 a2, .int .i64 a1] rfl (by (try simp only [List.map_toArray, List.map_cons, List.map_nil]); first | done | rfl | (simp only [List.length_drop, List.length_take]; rfl)) ?_; (with_reducible refine (cast_Between.calls a0 a2 a1 t114 _ A9.out).mono ?_); rintro e w45 ⟨rfl, hb⟩; refine ⟨_, rfl, ?_⟩; have n0_ := Aside0.mk (below_step (by repeat (first | (with_reducible first | exact HB.out | apply below_alloc | apply pw_below_drewN | apply below_drew1) | exact HB.out)) hb); clear HB; have HB := n0_; clear n0_; (try clear hb); (try clear hb2); (try clear hk); (try clear hi)))
                go_meet
                case rel => exact ⟨_, (false), (by first | rfl | (simp; done) | (simp [*]; done)), H', ⟨by first | omega | exact Nat.le_refl _⟩, ⟨by repeat (first | (with_reducible first | exact HB.out | apply below_alloc | apply pw_below_drewN | apply below_drew1) | exact HB.out)⟩⟩
    · rw [if_neg c10] at H
      have c10b0 : (t113 == t114) = false := beq_eq_false_iff_ne.mpr c10
      have c10b1 : (t113 != t114) = true := bne_iff_ne.mpr c10
      (first | rw [c10b0] | (simp only [i64_w, i32_w]; rw [c10b0]) | skip)
      have H' := Aside0.mk H
      clear H
      go_wp2_with (first | ((with_reducible refine gate_callee (f := 17) rfl ?_); refine goesL_ (some 24) rfl rfl Try.func17 (by kernel_rfl) rfl #[.int .i64 a0, .int .i64 a2, .int .i64 a1] rfl (by (try simp only [List.map_toArray, List.map_cons, List.map_nil]); first | done | rfl | (simp only [List.length_drop, List.length_take]; rfl)) ?_; (with_reducible refine (cast_Between.calls a0 a2 a1 t114 _ A9.out).mono ?_); rintro e w46 ⟨rfl, hb⟩; refine ⟨_, rfl, ?_⟩; have n0_ := Aside0.mk (below_step (by repeat (first | (with_reducible first | exact HB.out | apply below_alloc | apply pw_below_drewN | apply below_drew1) | exact HB.out)) hb); clear HB; have HB := n0_; clear n0_; (try clear hb); (try clear hb2); (try clear hk); (try clear hi)))
      go_meet
      case rel => exact ⟨_, (true), (by first | rfl | (simp; done) | (simp [*]; done)), H', ⟨by first | omega | exact Nat.le_refl _⟩, ⟨by repeat (first | (with_reducible first | exact HB.out | apply below_alloc | apply pw_below_drewN | apply below_drew1) | exact HB.out)⟩⟩
  case rest =>
    clear HC7
    try clear c1
    try clear c2
    try clear p2
    try clear c3
    try clear c4
    try clear c5
    try clear c10
    try clear c10b0
    try clear c10b1
    try clear c11
    try clear c11b0
    try clear c13
    try clear c13b0
    try clear c15
    try clear c15b0
    try clear c16
    try clear c16b0
    try clear c17
    try clear c17b0
    try clear c17b1
    try clear c18
    try clear c18b0
    try clear c19
    try clear c19b0
    try clear c19b1
    try clear c20
    try clear c20b0
    try clear c24
    try clear c24b0
    try clear c28
    try clear c28b0
    try clear c29
    try clear c29b0
    try clear c29b1
    try clear c30
    try clear c30b0
    try clear c34
    try clear c34b0
    try clear c37
    try clear c37b0
    try clear c38
    try clear c38b0
    try clear c38b1
    try clear c39
    try clear c39b0
    try clear c43
    try clear c43b0
    obtain ⟨kq, x70_6, rfl, HA, HJ6, HB⟩ := hcut
    cases kq with
    | zero => exact absurd HA.out (by simp [rotuletlaw02_CastBetween.j0])
    | succ kj6 =>
      have H := HA.out
      clear HA
      simp only [rotuletlaw02_CastBetween.j0] at H
      by_cases c47 : x70_6 = true
      · subst c47
        have H1 : (some false) = some r := by rw [if_pos rfl] at H; exact H
        exact absurd (Option.some.inj H1) (by rw [HRT.out]; decide)
      · replace c47 := Bool.eq_false_iff.mpr c47
        subst c47
        have H1 : ((rotuletlaw02_alive.f).bind fun t115 => (if t115 = true then ((cast_Between.f a0 (-128) 127).bind fun t116 => ((cast_Clamp.f a0 8).bind fun t117 => (if t116 = t117 then ((cast_Between.f t113 a1 a2).bind fun t118 => (some (t118 == t113))) else (some false)))) else (some false))) = some r := by rw [if_neg (show ¬ (false = true) by decide)] at H; exact H
        clear H
        have H := H1
        clear H1
        replace H := Option.bind_eq_some_iff.mp H
        obtain ⟨t115, A480, H⟩ := H
        replace H : (if t115 = true then ((cast_Between.f a0 (-128) 127).bind fun t116 => ((cast_Clamp.f a0 8).bind fun t117 => (if t116 = t117 then ((cast_Between.f t113 a1 a2).bind fun t118 => (some (t118 == t113))) else (some false)))) else (some false)) = some r := H
        have A48 := Aside0.mk A480
        clear A480
        by_cases c49 : t115 = true
        · subst c49
          have H1 : ((cast_Between.f a0 (-128) 127).bind fun t116 => ((cast_Clamp.f a0 8).bind fun t117 => (if t116 = t117 then ((cast_Between.f t113 a1 a2).bind fun t118 => (some (t118 == t113))) else (some false)))) = some r := by rw [if_pos rfl] at H; exact H
          clear H
          have H := H1
          clear H1
          replace H := Option.bind_eq_some_iff.mp H
          obtain ⟨t116, A500, H⟩ := H
          replace H : ((cast_Clamp.f a0 8).bind fun t117 => (if t116 = t117 then ((cast_Between.f t113 a1 a2).bind fun t118 => (some (t118 == t113))) else (some false))) = some r := H
          have A50 := Aside0.mk A500
          clear A500
          replace H := Option.bind_eq_some_iff.mp H
          obtain ⟨t117, A510, H⟩ := H
          replace H : (if t116 = t117 then ((cast_Between.f t113 a1 a2).bind fun t118 => (some (t118 == t113))) else (some false)) = some r := H
          have A51 := Aside0.mk A510
          clear A510
          by_cases c52 : t116 = t117
          · rw [if_pos c52] at H
            have c52b0 : (t116 == t117) = true := beq_iff_eq.mpr c52
            have c52b1 : (t116 != t117) = false := bne_eq_false_iff_eq.mpr c52
            clear c52
            replace H := Option.bind_eq_some_iff.mp H
            obtain ⟨t118, A530, H⟩ := H
            replace H : (some (t118 == t113)) = some r := H
            have A53 := Aside0.mk A530
            clear A530
            obtain rfl := Option.some.inj H
            go_wp2_with (first | ((with_reducible refine gate_callee (f := 12) rfl ?_); refine goesL_ (some 71) rfl rfl Try.func12 (by kernel_rfl) rfl #[] rfl (by (try simp only [List.map_toArray, List.map_cons, List.map_nil]); first | done | rfl | (simp only [List.length_drop, List.length_take]; rfl)) ?_; (with_reducible refine (rotuletlaw02_alive.calls  true _ A48.out).mono ?_); rintro e w54 ⟨rfl, hb⟩; refine ⟨_, rfl, ?_⟩; have n0_ := Aside0.mk (below_step (by repeat (first | (with_reducible first | exact HB.out | apply below_alloc | apply pw_below_drewN | apply below_drew1) | exact HB.out)) hb); clear HB; have HB := n0_; clear n0_; (try clear hb); (try clear hb2); (try clear hk); (try clear hi)) | (go_at_call 17; (with_reducible refine (cast_Between.calls a0 (-128) 127 t116 _ A50.out).mono ?_); rintro e w55 ⟨rfl, hb⟩; have n0_ := Aside0.mk (below_step (by repeat (first | (with_reducible first | exact HB.out | apply below_alloc | apply pw_below_drewN | apply below_drew1) | exact HB.out)) hb); clear HB; have HB := n0_; clear n0_; (try clear hb); (try clear hb2); (try clear hk); (try clear hi)) | (go_at_call 14; (with_reducible refine (cast_Clamp.calls a0 8 t117 _ A51.out).mono ?_); rintro e w56 ⟨rfl, hb⟩; have n0_ := Aside0.mk (below_step (by repeat (first | (with_reducible first | exact HB.out | apply below_alloc | apply pw_below_drewN | apply below_drew1) | exact HB.out)) hb); clear HB; have HB := n0_; clear n0_; (try clear hb); (try clear hb2); (try clear hk); (try clear hi)) | (go_at_call 17; (with_reducible refine (cast_Between.calls t113 a1 a2 t118 _ A53.out).mono ?_); rintro e w57 ⟨rfl, hb⟩; have n0_ := Aside0.mk (below_step (by repeat (first | (with_reducible first | exact HB.out | apply below_alloc | apply pw_below_drewN | apply below_drew1) | exact HB.out)) hb); clear HB; have HB := n0_; clear n0_; (try clear hb); (try clear hb2); (try clear hk); (try clear hi)))
            go_ret
            exact ⟨by first | rfl | (simp [errW_none, errW_some] <;> rfl) | (simp only [← hji5, ← hji6]; first | rfl | (simp [errW_none, errW_some] <;> rfl)) | (simp [*, errW_none, errW_some] <;> rfl), by repeat (first | (with_reducible first | exact HB.out | apply below_alloc | apply pw_below_drewN | apply below_drew1) | exact HB.out)⟩
          · rw [if_neg c52] at H
            exact absurd (Option.some.inj H) (by rw [HRT.out]; decide)
        · replace c49 := Bool.eq_false_iff.mpr c49
          subst c49
          have H1 : (some false) = some r := by rw [if_neg (show ¬ (false = true) by decide)] at H; exact H
          exact absurd (Option.some.inj H1) (by rw [HRT.out]; decide)
/-- THE ONE PURE STATEMENT of rotuletlaw02_CastBetween: yours. -/
def rotuletlaw02_CastBetween.Pure : Prop := ∀ (a0 : Int) (a1 : Int) (a2 : Int), (Lit.int .i64 a0).wf = true → (Lit.int .i64 a1).wf = true → (Lit.int .i64 a2).wf = true → ∃ k, rotuletlaw02_CastBetween.f k a0 a1 a2 = some true
theorem rotuletlaw02_CastBetween.walk (P : rotuletlaw02_CastBetween.Pure) (a0 : Int) (a1 : Int) (a2 : Int) (w : World) (w0 : (Lit.int .i64 a0).wf = true) (w1 : (Lit.int .i64 a1).wf = true) (w2 : (Lit.int .i64 a2).wf = true) :
    Calls Try.prog 5 #[.int .i64 a0, .int .i64 a1, .int .i64 a2] w fun e w' => e = .returned (.bool true) ∧ Below w.heap.size w w' := by
  obtain ⟨k, h⟩ := P a0 a1 a2 w0 w1 w2
  refine (rotuletlaw02_CastBetween.calls k a0 a1 a2 true rfl w h).mono ?_
  rintro e w' ⟨rfl, hd⟩
  exact ⟨rfl, hd⟩

end Go.Proofs.Ytjenbokdcbppoaa.Fn
