/- The functions that the laws of this seat reach, as Lean functions, and for each the proof that the Go code comes to just these answers (lines written by the kit's print for these claims, joined by a program of ours; where a remark says so, by hand). Conditions: none. -/
import Derived.Test.YtjenbokdcbppoaaFn2
namespace Go.Proofs.Ytjenbokdcbppoaa.Fn
open Go.RowKit Go.Proofs.YtjenbokdcbppoaaW.PrintWords Go.Proofs.YtjenbokdcbppoaaW.PrintLast Go.Proofs.YtjenbokdcbppoaaW.PrintMore
attribute [local go_sem] max2_int min2_int max_two min_two max_three min_three max_four min_four   -- for this text's walks alone
set_option linter.unusedVariables false
set_option linter.unusedSimpArgs false
/-! ### rotuletlaw02_CastPowers: function 7 -/
mutual
def rotuletlaw02_CastPowers.j0 : Nat → Int → Int → Bool → Option (Bool)
  | 0, _, _, _ => none
  | k + 1, x0, x1, x31 => if x31 = true then (some false) else (if x1 < 0 then (rotuletlaw02_CastPowers.j1 k x0 x1 true) else (rotuletlaw02_CastPowers.j1 k x0 x1 (decide (x1 > 63))))
def rotuletlaw02_CastPowers.j1 : Nat → Int → Int → Bool → Option (Bool)
  | 0, _, _, _ => none
  | k + 1, x0, x1, x37 => if x37 = true then ((rotuletlaw02_alive.f).bind fun t113 => (some t113)) else ((cast_Align.f x0 x1).bind fun bt114 => ((cast_Narrow.f bt114.1 (mx x1 1)).bind fun bt116 => (if bt114.2 = true then ((cast_Align.f bt114.1 x1).bind fun bt118 => ((rotuletlaw02_alive.f).bind fun t120 => (if t120 = true then (if bt114.1 ≥ x0 then (if 0 ≤ (IntKind.u64.wrap (x1)) then (if (IntKind.u64.wrap (bt114.1 - x0)) < (shl .u64 1 (IntKind.u64.wrap (x1))) then (if x1 = 0 then (if bt118.2 = true then (some (bt118.1 == bt114.1)) else (some false)) else (if bt116.1 = 0 then (if bt118.2 = true then (some (bt118.1 == bt114.1)) else (some false)) else (some false))) else (some false)) else (none)) else (some false)) else (some false)))) else ((rotuletlaw02_alive.f).bind fun t121 => (if t121 = true then (if bt114.1 = 0 then (if x1 > 0 then (if 0 ≤ (IntKind.u64.wrap (x1)) then (some (decide (x0 > (IntKind.u64.wrap (18446744073709551615 - (shl .u64 1 (IntKind.u64.wrap (x1)))))))) else (none)) else (some false)) else (some false)) else (some false))))))
end
def rotuletlaw02_CastPowers.f (k : Nat) (a0 : Int) (a1 : Int) : Option (Bool) := (cast_Log.f k a0).bind fun bt111 => (if (bt111.2 != (decide (a0 > 0))) = true then (rotuletlaw02_CastPowers.j0 k a0 a1 true) else (if bt111.2 = true then (if 0 ≤ (IntKind.u64.wrap (bt111.1)) then (rotuletlaw02_CastPowers.j0 k a0 a1 ((shr .u64 a0 (IntKind.u64.wrap (bt111.1))) != 1)) else (none)) else (rotuletlaw02_CastPowers.j0 k a0 a1 false)))
theorem rotuletlaw02_CastPowers.mono_l : ∀ k, (∀ y0 y1 y2, LeO (rotuletlaw02_CastPowers.j0 k y0 y1 y2) (rotuletlaw02_CastPowers.j0 (k + 1) y0 y1 y2)) ∧ (∀ y0 y1 y2, LeO (rotuletlaw02_CastPowers.j1 k y0 y1 y2) (rotuletlaw02_CastPowers.j1 (k + 1) y0 y1 y2))
  | 0 => ⟨fun _ _ _ r h => by simp [rotuletlaw02_CastPowers.j0] at h, fun _ _ _ r h => by simp [rotuletlaw02_CastPowers.j1] at h⟩
  | k + 1 => by
    obtain ⟨ih0, ih1⟩ := rotuletlaw02_CastPowers.mono_l k
    refine ⟨?_, ?_⟩
    · intro y0 y1 y2
      unfold rotuletlaw02_CastPowers.j0
      repeat' first
      | (with_reducible exact ih0 _ _ _)
      | (with_reducible exact ih1 _ _ _)
      | (with_reducible exact cast_Log.mono _ _)
      | (with_reducible exact LeO.refl _)
      | (with_reducible exact LeO.none _)
      | (with_reducible refine LeO.ite ?_ ?_)
      | (with_reducible refine LeO.bind ?_ (fun _ => ?_))
      | exact ih0 _ _ _
      | exact ih1 _ _ _
      | exact cast_Log.mono _ _
      | exact LeO.none _
      | refine LeO.ite ?_ ?_
      | refine LeO.bind ?_ (fun _ => ?_)
    · intro y0 y1 y2
      unfold rotuletlaw02_CastPowers.j1
      repeat' first
      | (with_reducible exact ih0 _ _ _)
      | (with_reducible exact ih1 _ _ _)
      | (with_reducible exact cast_Log.mono _ _)
      | (with_reducible exact LeO.refl _)
      | (with_reducible exact LeO.none _)
      | (with_reducible refine LeO.ite ?_ ?_)
      | (with_reducible refine LeO.bind ?_ (fun _ => ?_))
      | exact ih0 _ _ _
      | exact ih1 _ _ _
      | exact cast_Log.mono _ _
      | exact LeO.none _
      | refine LeO.ite ?_ ?_
      | refine LeO.bind ?_ (fun _ => ?_)
theorem rotuletlaw02_CastPowers.mono : ∀ a0 a1 k, LeO (rotuletlaw02_CastPowers.f k a0 a1) (rotuletlaw02_CastPowers.f (k + 1) a0 a1) := by
  intro a0 a1 k
  obtain ⟨ih0, ih1⟩ := rotuletlaw02_CastPowers.mono_l k
  unfold rotuletlaw02_CastPowers.f
  repeat' first
      | (with_reducible exact ih0 _ _ _)
      | (with_reducible exact ih1 _ _ _)
      | (with_reducible exact cast_Log.mono _ _)
      | (with_reducible exact LeO.refl _)
      | (with_reducible exact LeO.none _)
      | (with_reducible refine LeO.ite ?_ ?_)
      | (with_reducible refine LeO.bind ?_ (fun _ => ?_))
      | exact ih0 _ _ _
      | exact ih1 _ _ _
      | exact cast_Log.mono _ _
      | exact LeO.none _
      | refine LeO.ite ?_ ?_
      | refine LeO.bind ?_ (fun _ => ?_)
set_option maxHeartbeats 8000000 in
set_option maxRecDepth 100000 in
theorem rotuletlaw02_CastPowers.calls (k : Nat) (a0 : Int) (a1 : Int) (r : Bool) (hrt : r = true) (w : World) (h : rotuletlaw02_CastPowers.f k a0 a1 = some r) :
    Calls Try.prog 7 #[.int .u64 a0, .int .i64 a1] w fun e w' => e = .returned (.bool r) ∧ Below w.heap.size w w' := by
  have HRT := Aside0.mk hrt
  clear hrt
  have HB := Aside0.mk (Below.refl w.heap.size w)
  have H : ((cast_Log.f k a0).bind fun bt111 => (if (bt111.2 != (decide (a0 > 0))) = true then (rotuletlaw02_CastPowers.j0 k a0 a1 true) else (if bt111.2 = true then (if 0 ≤ (IntKind.u64.wrap (bt111.1)) then (rotuletlaw02_CastPowers.j0 k a0 a1 ((shr .u64 a0 (IntKind.u64.wrap (bt111.1))) != 1)) else (none)) else (rotuletlaw02_CastPowers.j0 k a0 a1 false)))) = some r := h
  clear h
  replace H := Option.bind_eq_some_iff.mp H
  obtain ⟨⟨t111, t112⟩, A30, H⟩ := H
  replace H : (if (t112 != (decide (a0 > 0))) = true then (rotuletlaw02_CastPowers.j0 k a0 a1 true) else (if t112 = true then (if 0 ≤ (IntKind.u64.wrap (t111)) then (rotuletlaw02_CastPowers.j0 k a0 a1 ((shr .u64 a0 (IntKind.u64.wrap (t111))) != 1)) else (none)) else (rotuletlaw02_CastPowers.j0 k a0 a1 false))) = some r := H
  have A3 := Aside0.mk A30
  clear A30
  have HC4 := Aside0.mk H
  clear H
  go_enter Try.func7, Try.ntmps7
  go_upto_region 2 with (first | ((with_reducible refine gate_callee (f := 20) rfl ?_); refine goesL_ (some 15) rfl rfl Try.func20 (by kernel_rfl) rfl #[.int .u64 a0] rfl (by (try simp only [List.map_toArray, List.map_cons, List.map_nil]); first | done | rfl | (simp only [List.length_drop, List.length_take]; rfl)) ?_; (with_reducible refine (cast_Log.calls k a0 t111 t112 _ A3.out).mono ?_); rintro e w' ⟨rfl, ⟨nd, rfl⟩⟩; refine ⟨_, rfl, ?_⟩))
  (try simp only [Act.put, List.setIfInBounds_toArray, List.set_cons_zero, List.set_cons_succ])
  go_cut [31] (fun v31 wc => ∃ (kq : Nat) (x31_3 : Bool), v31 = .bool x31_3 ∧ Aside0 (rotuletlaw02_CastPowers.j0 kq a0 a1 x31_3 = some r) ∧ Aside0 (kq ≤ k) ∧ Aside0 (Below w.heap.size w wc))
  case first =>
    have H := HC4.out
    clear HC4
    by_cases c5 : (t112 != (decide (a0 > 0))) = true
    · rw [if_pos c5] at H
      have c5b0 : (t112 != (decide (a0 > 0))) = true := c5
      (try (have c5b1 : decide (t112 = (decide (a0 > 0))) = false := by simpa using c5))
      (try (have c5b2 : (t112 == (decide (a0 > 0))) = false := by simpa using c5))
      (try (have c5b3 : ¬ (t112 = (decide (a0 > 0))) := by simpa using c5))
      clear c5
      (first | rw [c5b0] | (simp only [i64_w, i32_w]; rw [c5b0]) | skip)
      have H' := Aside0.mk H
      clear H
      go_wp2
      go_meet
      case rel => exact ⟨_, (true), (by first | rfl | (simp; done) | (simp [*]; done)), H', ⟨by first | omega | exact Nat.le_refl _⟩, ⟨by repeat (first | (with_reducible first | exact HB.out | apply below_alloc | apply pw_below_drewN | apply below_drew1) | exact HB.out)⟩⟩
    · rw [if_neg c5] at H
      have c5b0 : (t112 != (decide (a0 > 0))) = false := by simpa using c5
      (try (have c5b1 : decide (t112 = (decide (a0 > 0))) = true := by simpa using c5))
      (try (have c5b2 : (t112 == (decide (a0 > 0))) = true := by simpa using c5))
      clear c5
      (first | rw [c5b0] | (simp only [i64_w, i32_w]; rw [c5b0]) | skip)
      by_cases c6 : t112 = true
      · subst c6
        have H1 : (if 0 ≤ (IntKind.u64.wrap (t111)) then (rotuletlaw02_CastPowers.j0 k a0 a1 ((shr .u64 a0 (IntKind.u64.wrap (t111))) != 1)) else (none)) = some r := by rw [if_pos rfl] at H; exact H
        clear H
        have H := H1
        clear H1
        obtain ⟨ji7, hji7⟩ : ∃ j_ : Int, (IntKind.u64.wrap (t111)) = j_ := ⟨_, rfl⟩
        replace H : (if 0 ≤ (ji7) then (rotuletlaw02_CastPowers.j0 k a0 a1 ((shr .u64 a0 (ji7)) != 1)) else (none)) = some r := by first | (rw [hji7] at H; exact H) | (simp only [hji7] at H ⊢; exact H)
        by_cases c8 : 0 ≤ (ji7)
        · rw [if_pos c8] at H
          have c8b0 := eq_true c8
          have c8b1 : decide (0 ≤ (ji7)) = true := decide_eq_true c8
          clear c8
          obtain ⟨ji9, hji9⟩ : ∃ j_ : Int, (shr .u64 a0 (ji7)) = j_ := ⟨_, rfl⟩
          replace H : (rotuletlaw02_CastPowers.j0 k a0 a1 ((ji9) != 1)) = some r := by first | (rw [hji9] at H; exact H) | (simp only [hji9] at H ⊢; exact H)
          have hji9_ : (a0 / 2 ^ min (ji7).toNat 64) = ji9 := hji9
          have hji9z : (ji7) ≤ 64 → (a0 / 2 ^ (ji7).toNat) = ji9 := shr_small hji9
          have H' := Aside0.mk H
          clear H
          go_wp2
          go_meet
          case rel => exact ⟨_, (((ji9) != 1)), (by first | rfl | (simp; done) | (simp only [← hji9] <;> (first | rfl | simp)) | (simp [*]; done)), H', ⟨by first | omega | exact Nat.le_refl _⟩, ⟨by repeat (first | (with_reducible first | exact HB.out | apply below_alloc | apply pw_below_drewN | apply below_drew1) | exact HB.out)⟩⟩
        · rw [if_neg c8] at H
          exact absurd H (by simp)
      · replace c6 := Bool.eq_false_iff.mpr c6
        subst c6
        have H1 : (rotuletlaw02_CastPowers.j0 k a0 a1 false) = some r := by rw [if_neg (show ¬ (false = true) by decide)] at H; exact H
        clear H
        have H := H1
        clear H1
        have H' := Aside0.mk H
        clear H
        go_wp2
        go_meet
        case rel => exact ⟨_, (false), (by first | rfl | (simp; done) | (simp [*]; done)), H', ⟨by first | omega | exact Nat.le_refl _⟩, ⟨by repeat (first | (with_reducible first | exact HB.out | apply below_alloc | apply pw_below_drewN | apply below_drew1) | exact HB.out)⟩⟩
  case rest =>
    clear HC4
    try clear c2
    try clear p2
    try clear c5
    try clear c5b0
    try clear c5b1
    try clear c5b2
    try clear c6
    try clear c7
    try clear c8
    try clear c8b0
    try clear c8b1
    obtain ⟨kq, x31_3, rfl, HA, HJ3, HB⟩ := hcut
    cases kq with
    | zero => exact absurd HA.out (by simp [rotuletlaw02_CastPowers.j0])
    | succ kj3 =>
      have H := HA.out
      clear HA
      simp only [rotuletlaw02_CastPowers.j0] at H
      by_cases c10 : x31_3 = true
      · subst c10
        have H1 : (some false) = some r := by rw [if_pos rfl] at H; exact H
        exact absurd (Option.some.inj H1) (by rw [HRT.out]; decide)
      · replace c10 := Bool.eq_false_iff.mpr c10
        subst c10
        have H1 : (if a1 < 0 then (rotuletlaw02_CastPowers.j1 kj3 a0 a1 true) else (rotuletlaw02_CastPowers.j1 kj3 a0 a1 (decide (a1 > 63)))) = some r := by rw [if_neg (show ¬ (false = true) by decide)] at H; exact H
        clear H
        have H := H1
        clear H1
        have HC11 := Aside0.mk H
        clear H
        go_upto_region 4 with (fail)
        go_cut [37] (fun v37 wc => ∃ (kq : Nat) (x37_10 : Bool), v37 = .bool x37_10 ∧ Aside0 (rotuletlaw02_CastPowers.j1 kq a0 a1 x37_10 = some r) ∧ Aside0 (kq ≤ kj3) ∧ Aside0 (Below w.heap.size w wc))
        case first =>
          have H := HC11.out
          clear HC11
          by_cases c12 : a1 < 0
          · rw [if_pos c12] at H
            have c12b0 : decide (a1 < 0) = true := decide_eq_true c12
            clear c12
            (first | rw [c12b0] | (simp only [i64_w, i32_w]; rw [c12b0]) | skip)
            have H' := Aside0.mk H
            clear H
            go_wp2
            go_meet
            case rel => exact ⟨_, (true), (by first | rfl | (simp; done) | (simp [*]; done)), H', ⟨by have := HJ3.out; first | omega | exact Nat.le_refl _⟩, ⟨by repeat (first | (with_reducible first | exact HB.out | apply below_alloc | apply pw_below_drewN | apply below_drew1) | exact HB.out)⟩⟩
          · rw [if_neg c12] at H
            have c12b0 : decide (a1 < 0) = false := decide_eq_false c12
            clear c12
            (first | rw [c12b0] | (simp only [i64_w, i32_w]; rw [c12b0]) | skip)
            have H' := Aside0.mk H
            clear H
            go_wp2
            go_meet
            case rel => exact ⟨_, (decide (a1 > 63)), (by first | rfl | (simp; done) | (simp [*]; done)), H', ⟨by have := HJ3.out; first | omega | exact Nat.le_refl _⟩, ⟨by repeat (first | (with_reducible first | exact HB.out | apply below_alloc | apply pw_below_drewN | apply below_drew1) | exact HB.out)⟩⟩
        case rest =>
          clear HC11
          try clear c1
          try clear c2
          try clear p2
          try clear c5
          try clear c5b0
          try clear c5b1
          try clear c5b2
          try clear c6
          try clear c7
          try clear c8
          try clear c8b0
          try clear c8b1
          try clear c10
          try clear c12
          try clear c12b0
          try clear p2
          obtain ⟨kq, x37_10, rfl, HA, HJ10, HB⟩ := hcut
          cases kq with
          | zero => exact absurd HA.out (by simp [rotuletlaw02_CastPowers.j1])
          | succ kj10 =>
            have H := HA.out
            clear HA
            simp only [rotuletlaw02_CastPowers.j1] at H
            by_cases c13 : x37_10 = true
            · subst c13
              have H1 : ((rotuletlaw02_alive.f).bind fun t113 => (some t113)) = some r := by rw [if_pos rfl] at H; exact H
              clear H
              have H := H1
              clear H1
              replace H := Option.bind_eq_some_iff.mp H
              obtain ⟨t113, A140, H⟩ := H
              replace H : (some t113) = some r := H
              have A14 := Aside0.mk A140
              clear A140
              obtain rfl := Option.some.inj H
              go_wp2_with (first | ((with_reducible refine gate_callee (f := 12) rfl ?_); refine goesL_ (some 38) rfl rfl Try.func12 (by kernel_rfl) rfl #[] rfl (by (try simp only [List.map_toArray, List.map_cons, List.map_nil]); first | done | rfl | (simp only [List.length_drop, List.length_take]; rfl)) ?_; (with_reducible refine (rotuletlaw02_alive.calls  t113 _ A14.out).mono ?_); rintro e w15 ⟨rfl, hb⟩; refine ⟨_, rfl, ?_⟩; have n0_ := Aside0.mk (below_step (by repeat (first | (with_reducible first | exact HB.out | apply below_alloc | apply pw_below_drewN | apply below_drew1) | exact HB.out)) hb); clear HB; have HB := n0_; clear n0_; (try clear hb); (try clear hb2); (try clear hk); (try clear hi)))
              go_ret
              exact ⟨by first | rfl | (simp [errW_none, errW_some] <;> rfl) | (simp [*, errW_none, errW_some] <;> rfl), by repeat (first | (with_reducible first | exact HB.out | apply below_alloc | apply pw_below_drewN | apply below_drew1) | exact HB.out)⟩
            · replace c13 := Bool.eq_false_iff.mpr c13
              subst c13
              have H1 : ((cast_Align.f a0 a1).bind fun bt114 => ((cast_Narrow.f bt114.1 (mx a1 1)).bind fun bt116 => (if bt114.2 = true then ((cast_Align.f bt114.1 a1).bind fun bt118 => ((rotuletlaw02_alive.f).bind fun t120 => (if t120 = true then (if bt114.1 ≥ a0 then (if 0 ≤ (IntKind.u64.wrap (a1)) then (if (IntKind.u64.wrap (bt114.1 - a0)) < (shl .u64 1 (IntKind.u64.wrap (a1))) then (if a1 = 0 then (if bt118.2 = true then (some (bt118.1 == bt114.1)) else (some false)) else (if bt116.1 = 0 then (if bt118.2 = true then (some (bt118.1 == bt114.1)) else (some false)) else (some false))) else (some false)) else (none)) else (some false)) else (some false)))) else ((rotuletlaw02_alive.f).bind fun t121 => (if t121 = true then (if bt114.1 = 0 then (if a1 > 0 then (if 0 ≤ (IntKind.u64.wrap (a1)) then (some (decide (a0 > (IntKind.u64.wrap (18446744073709551615 - (shl .u64 1 (IntKind.u64.wrap (a1)))))))) else (none)) else (some false)) else (some false)) else (some false)))))) = some r := by rw [if_neg (show ¬ (false = true) by decide)] at H; exact H
              clear H
              have H := H1
              clear H1
              replace H := Option.bind_eq_some_iff.mp H
              obtain ⟨⟨t114, t115⟩, A160, H⟩ := H
              replace H : ((cast_Narrow.f t114 (mx a1 1)).bind fun bt116 => (if t115 = true then ((cast_Align.f t114 a1).bind fun bt118 => ((rotuletlaw02_alive.f).bind fun t120 => (if t120 = true then (if t114 ≥ a0 then (if 0 ≤ (IntKind.u64.wrap (a1)) then (if (IntKind.u64.wrap (t114 - a0)) < (shl .u64 1 (IntKind.u64.wrap (a1))) then (if a1 = 0 then (if bt118.2 = true then (some (bt118.1 == t114)) else (some false)) else (if bt116.1 = 0 then (if bt118.2 = true then (some (bt118.1 == t114)) else (some false)) else (some false))) else (some false)) else (none)) else (some false)) else (some false)))) else ((rotuletlaw02_alive.f).bind fun t121 => (if t121 = true then (if t114 = 0 then (if a1 > 0 then (if 0 ≤ (IntKind.u64.wrap (a1)) then (some (decide (a0 > (IntKind.u64.wrap (18446744073709551615 - (shl .u64 1 (IntKind.u64.wrap (a1)))))))) else (none)) else (some false)) else (some false)) else (some false))))) = some r := H
              have A16 := Aside0.mk A160
              clear A160
              obtain ⟨ji17, hji17⟩ : ∃ j_ : Int, (mx a1 1) = j_ := ⟨_, rfl⟩
              replace H : ((cast_Narrow.f t114 (ji17)).bind fun bt116 => (if t115 = true then ((cast_Align.f t114 a1).bind fun bt118 => ((rotuletlaw02_alive.f).bind fun t120 => (if t120 = true then (if t114 ≥ a0 then (if 0 ≤ (IntKind.u64.wrap (a1)) then (if (IntKind.u64.wrap (t114 - a0)) < (shl .u64 1 (IntKind.u64.wrap (a1))) then (if a1 = 0 then (if bt118.2 = true then (some (bt118.1 == t114)) else (some false)) else (if bt116.1 = 0 then (if bt118.2 = true then (some (bt118.1 == t114)) else (some false)) else (some false))) else (some false)) else (none)) else (some false)) else (some false)))) else ((rotuletlaw02_alive.f).bind fun t121 => (if t121 = true then (if t114 = 0 then (if a1 > 0 then (if 0 ≤ (IntKind.u64.wrap (a1)) then (some (decide (a0 > (IntKind.u64.wrap (18446744073709551615 - (shl .u64 1 (IntKind.u64.wrap (a1)))))))) else (none)) else (some false)) else (some false)) else (some false))))) = some r := by first | (rw [hji17] at H; exact H) | (simp only [hji17] at H ⊢; exact H)
              (try rw [hji17] at A16)
              have hji17_ : (if a1 < 1 then 1 else a1) = ji17 := hji17
              replace H := Option.bind_eq_some_iff.mp H
              obtain ⟨⟨t116, t117⟩, A180, H⟩ := H
              replace H : (if t115 = true then ((cast_Align.f t114 a1).bind fun bt118 => ((rotuletlaw02_alive.f).bind fun t120 => (if t120 = true then (if t114 ≥ a0 then (if 0 ≤ (IntKind.u64.wrap (a1)) then (if (IntKind.u64.wrap (t114 - a0)) < (shl .u64 1 (IntKind.u64.wrap (a1))) then (if a1 = 0 then (if bt118.2 = true then (some (bt118.1 == t114)) else (some false)) else (if t116 = 0 then (if bt118.2 = true then (some (bt118.1 == t114)) else (some false)) else (some false))) else (some false)) else (none)) else (some false)) else (some false)))) else ((rotuletlaw02_alive.f).bind fun t121 => (if t121 = true then (if t114 = 0 then (if a1 > 0 then (if 0 ≤ (IntKind.u64.wrap (a1)) then (some (decide (a0 > (IntKind.u64.wrap (18446744073709551615 - (shl .u64 1 (IntKind.u64.wrap (a1)))))))) else (none)) else (some false)) else (some false)) else (some false)))) = some r := H
              have A18 := Aside0.mk A180
              clear A180
              by_cases c19 : t115 = true
              · subst c19
                have H1 : ((cast_Align.f t114 a1).bind fun bt118 => ((rotuletlaw02_alive.f).bind fun t120 => (if t120 = true then (if t114 ≥ a0 then (if 0 ≤ (IntKind.u64.wrap (a1)) then (if (IntKind.u64.wrap (t114 - a0)) < (shl .u64 1 (IntKind.u64.wrap (a1))) then (if a1 = 0 then (if bt118.2 = true then (some (bt118.1 == t114)) else (some false)) else (if t116 = 0 then (if bt118.2 = true then (some (bt118.1 == t114)) else (some false)) else (some false))) else (some false)) else (none)) else (some false)) else (some false)))) = some r := by rw [if_pos rfl] at H; exact H
                clear H
                have H := H1
                clear H1
                replace H := Option.bind_eq_some_iff.mp H
                obtain ⟨⟨t118, t119⟩, A200, H⟩ := H
                replace H : ((rotuletlaw02_alive.f).bind fun t120 => (if t120 = true then (if t114 ≥ a0 then (if 0 ≤ (IntKind.u64.wrap (a1)) then (if (IntKind.u64.wrap (t114 - a0)) < (shl .u64 1 (IntKind.u64.wrap (a1))) then (if a1 = 0 then (if t119 = true then (some (t118 == t114)) else (some false)) else (if t116 = 0 then (if t119 = true then (some (t118 == t114)) else (some false)) else (some false))) else (some false)) else (none)) else (some false)) else (some false))) = some r := H
                have A20 := Aside0.mk A200
                clear A200
                replace H := Option.bind_eq_some_iff.mp H
                obtain ⟨t120, A210, H⟩ := H
                replace H : (if t120 = true then (if t114 ≥ a0 then (if 0 ≤ (IntKind.u64.wrap (a1)) then (if (IntKind.u64.wrap (t114 - a0)) < (shl .u64 1 (IntKind.u64.wrap (a1))) then (if a1 = 0 then (if t119 = true then (some (t118 == t114)) else (some false)) else (if t116 = 0 then (if t119 = true then (some (t118 == t114)) else (some false)) else (some false))) else (some false)) else (none)) else (some false)) else (some false)) = some r := H
                have A21 := Aside0.mk A210
                clear A210
                by_cases c22 : t120 = true
                · subst c22
                  have H1 : (if t114 ≥ a0 then (if 0 ≤ (IntKind.u64.wrap (a1)) then (if (IntKind.u64.wrap (t114 - a0)) < (shl .u64 1 (IntKind.u64.wrap (a1))) then (if a1 = 0 then (if t119 = true then (some (t118 == t114)) else (some false)) else (if t116 = 0 then (if t119 = true then (some (t118 == t114)) else (some false)) else (some false))) else (some false)) else (none)) else (some false)) = some r := by rw [if_pos rfl] at H; exact H
                  clear H
                  have H := H1
                  clear H1
                  by_cases c23 : t114 ≥ a0
                  · rw [if_pos c23] at H
                    have c23b0 : decide (a0 ≤ t114) = true := decide_eq_true c23
                    clear c23
                    obtain ⟨ji24, hji24⟩ : ∃ j_ : Int, (IntKind.u64.wrap (a1)) = j_ := ⟨_, rfl⟩
                    replace H : (if 0 ≤ (ji24) then (if (IntKind.u64.wrap (t114 - a0)) < (shl .u64 1 (ji24)) then (if a1 = 0 then (if t119 = true then (some (t118 == t114)) else (some false)) else (if t116 = 0 then (if t119 = true then (some (t118 == t114)) else (some false)) else (some false))) else (some false)) else (none)) = some r := by first | (rw [hji24] at H; exact H) | (simp only [hji24] at H ⊢; exact H)
                    (try rw [hji24] at A16)
                    (try rw [hji24] at A18)
                    (try rw [hji24] at A20)
                    (try rw [hji24] at A21)
                    by_cases c25 : 0 ≤ (ji24)
                    · rw [if_pos c25] at H
                      have c25b0 := eq_true c25
                      have c25b1 : decide (0 ≤ (ji24)) = true := decide_eq_true c25
                      clear c25
                      obtain ⟨ji26, hji26⟩ : ∃ j_ : Int, (shl .u64 1 (ji24)) = j_ := ⟨_, rfl⟩
                      replace H : (if (IntKind.u64.wrap (t114 - a0)) < (ji26) then (if a1 = 0 then (if t119 = true then (some (t118 == t114)) else (some false)) else (if t116 = 0 then (if t119 = true then (some (t118 == t114)) else (some false)) else (some false))) else (some false)) = some r := by first | (rw [hji26] at H; exact H) | (simp only [hji26] at H ⊢; exact H)
                      (try rw [hji26] at A16)
                      (try rw [hji26] at A18)
                      (try rw [hji26] at A20)
                      (try rw [hji26] at A21)
                      have hji26_ : (IntKind.u64.wrap (1 * 2 ^ min (ji24).toNat 64)) = ji26 := hji26
                      have hji26z : (ji24) ≤ 64 → (IntKind.u64.wrap (1 * 2 ^ (ji24).toNat)) = ji26 := shl_small hji26
                      have hji26u : (IntKind.u64.wrap (2 ^ min (ji24).toNat 64)) = ji26 := by have h_ := hji26_; rw [Int.one_mul] at h_; exact h_
                      have hji26v : (ji24) ≤ 64 → (IntKind.u64.wrap (2 ^ (ji24).toNat)) = ji26 := fun hle_ => by have h_ := hji26z hle_; rw [Int.one_mul] at h_; exact h_
                      by_cases c27 : (IntKind.u64.wrap (t114 - a0)) < (ji26)
                      · rw [if_pos c27] at H
                        have c27b0 : decide ((IntKind.u64.wrap (t114 - a0)) < (ji26)) = true := decide_eq_true c27
                        clear c27
                        by_cases c28 : a1 = 0
                        · rw [if_pos c28] at H
                          have c28b0 : (a1 == 0) = true := beq_iff_eq.mpr c28
                          have c28b1 : (a1 != 0) = false := bne_eq_false_iff_eq.mpr c28
                          clear c28
                          by_cases c29 : t119 = true
                          · subst c29
                            have H1 : (some (t118 == t114)) = some r := by rw [if_pos rfl] at H; exact H
                            clear H
                            have H := H1
                            clear H1
                            obtain rfl := Option.some.inj H
                            go_wp2_with (first | ((with_reducible refine gate_callee (f := 15) rfl ?_); refine goesL_ (some 42) rfl rfl Try.func15 (by kernel_rfl) rfl #[.int .u64 a0, .int .i64 a1] rfl (by (try simp only [List.map_toArray, List.map_cons, List.map_nil]); first | done | rfl | (simp only [List.length_drop, List.length_take]; rfl)) ?_; (with_reducible refine (cast_Align.calls a0 a1 t114 true _ A16.out).mono ?_); rintro e w30 ⟨rfl, hb⟩; refine ⟨_, rfl, ?_⟩; have n0_ := Aside0.mk (below_step (by repeat (first | (with_reducible first | exact HB.out | apply below_alloc | apply pw_below_drewN | apply below_drew1) | exact HB.out)) hb); clear HB; have HB := n0_; clear n0_; (try clear hb); (try clear hb2); (try clear hk); (try clear hi)) | ((with_reducible refine gate_callee (f := 11) rfl ?_); refine goesL_ (some 49) rfl rfl Try.func11 (by kernel_rfl) rfl #[.int .u64 t114, .int .i64 ji17] rfl (by (try simp only [List.map_toArray, List.map_cons, List.map_nil]); first | done | (simp only [hji17]; rfl) | rfl | (simp only [List.length_drop, List.length_take]; rfl)) ?_; (with_reducible refine (cast_Narrow.calls t114 ji17 t116 t117 _ A18.out).mono ?_); rintro e w31 ⟨rfl, hb⟩; refine ⟨_, rfl, ?_⟩; have n0_ := Aside0.mk (below_step (by repeat (first | (with_reducible first | exact HB.out | apply below_alloc | apply pw_below_drewN | apply below_drew1) | exact HB.out)) hb); clear HB; have HB := n0_; clear n0_; (try clear hb); (try clear hb2); (try clear hk); (try clear hi)) | ((with_reducible refine gate_callee (f := 15) rfl ?_); refine goesL_ (some 74) rfl rfl Try.func15 (by kernel_rfl) rfl #[.int .u64 t114, .int .i64 a1] rfl (by (try simp only [List.map_toArray, List.map_cons, List.map_nil]); first | done | rfl | (simp only [List.length_drop, List.length_take]; rfl)) ?_; (with_reducible refine (cast_Align.calls t114 a1 t118 true _ A20.out).mono ?_); rintro e w32 ⟨rfl, hb⟩; refine ⟨_, rfl, ?_⟩; have n0_ := Aside0.mk (below_step (by repeat (first | (with_reducible first | exact HB.out | apply below_alloc | apply pw_below_drewN | apply below_drew1) | exact HB.out)) hb); clear HB; have HB := n0_; clear n0_; (try clear hb); (try clear hb2); (try clear hk); (try clear hi)) | ((with_reducible refine gate_callee (f := 12) rfl ?_); refine goesL_ (some 77) rfl rfl Try.func12 (by kernel_rfl) rfl #[] rfl (by (try simp only [List.map_toArray, List.map_cons, List.map_nil]); first | done | rfl | (simp only [List.length_drop, List.length_take]; rfl)) ?_; (with_reducible refine (rotuletlaw02_alive.calls  true _ A21.out).mono ?_); rintro e w33 ⟨rfl, hb⟩; refine ⟨_, rfl, ?_⟩; have n0_ := Aside0.mk (below_step (by repeat (first | (with_reducible first | exact HB.out | apply below_alloc | apply pw_below_drewN | apply below_drew1) | exact HB.out)) hb); clear HB; have HB := n0_; clear n0_; (try clear hb); (try clear hb2); (try clear hk); (try clear hi)))
                            go_ret
                            exact ⟨by first | rfl | (simp [errW_none, errW_some] <;> rfl) | (simp only [← hji17, ← hji24, ← hji26]; first | rfl | (simp [errW_none, errW_some] <;> rfl)) | (simp [*, errW_none, errW_some] <;> rfl), by repeat (first | (with_reducible first | exact HB.out | apply below_alloc | apply pw_below_drewN | apply below_drew1) | exact HB.out)⟩
                          · replace c29 := Bool.eq_false_iff.mpr c29
                            subst c29
                            have H1 : (some false) = some r := by rw [if_neg (show ¬ (false = true) by decide)] at H; exact H
                            exact absurd (Option.some.inj H1) (by rw [HRT.out]; decide)
                        · rw [if_neg c28] at H
                          have c28b0 : (a1 == 0) = false := beq_eq_false_iff_ne.mpr c28
                          have c28b1 : (a1 != 0) = true := bne_iff_ne.mpr c28
                          by_cases c38 : t116 = 0
                          · rw [if_pos c38] at H
                            have c38b0 : (t116 == 0) = true := beq_iff_eq.mpr c38
                            have c38b1 : (t116 != 0) = false := bne_eq_false_iff_eq.mpr c38
                            clear c38
                            by_cases c39 : t119 = true
                            · subst c39
                              have H1 : (some (t118 == t114)) = some r := by rw [if_pos rfl] at H; exact H
                              clear H
                              have H := H1
                              clear H1
                              obtain rfl := Option.some.inj H
                              go_wp2_with (first | ((with_reducible refine gate_callee (f := 15) rfl ?_); refine goesL_ (some 42) rfl rfl Try.func15 (by kernel_rfl) rfl #[.int .u64 a0, .int .i64 a1] rfl (by (try simp only [List.map_toArray, List.map_cons, List.map_nil]); first | done | rfl | (simp only [List.length_drop, List.length_take]; rfl)) ?_; (with_reducible refine (cast_Align.calls a0 a1 t114 true _ A16.out).mono ?_); rintro e w40 ⟨rfl, hb⟩; refine ⟨_, rfl, ?_⟩; have n0_ := Aside0.mk (below_step (by repeat (first | (with_reducible first | exact HB.out | apply below_alloc | apply pw_below_drewN | apply below_drew1) | exact HB.out)) hb); clear HB; have HB := n0_; clear n0_; (try clear hb); (try clear hb2); (try clear hk); (try clear hi)) | ((with_reducible refine gate_callee (f := 11) rfl ?_); refine goesL_ (some 49) rfl rfl Try.func11 (by kernel_rfl) rfl #[.int .u64 t114, .int .i64 ji17] rfl (by (try simp only [List.map_toArray, List.map_cons, List.map_nil]); first | done | (simp only [hji17]; rfl) | rfl | (simp only [List.length_drop, List.length_take]; rfl)) ?_; (with_reducible refine (cast_Narrow.calls t114 ji17 t116 t117 _ A18.out).mono ?_); rintro e w41 ⟨rfl, hb⟩; refine ⟨_, rfl, ?_⟩; have n0_ := Aside0.mk (below_step (by repeat (first | (with_reducible first | exact HB.out | apply below_alloc | apply pw_below_drewN | apply below_drew1) | exact HB.out)) hb); clear HB; have HB := n0_; clear n0_; (try clear hb); (try clear hb2); (try clear hk); (try clear hi)) | ((with_reducible refine gate_callee (f := 15) rfl ?_); refine goesL_ (some 74) rfl rfl Try.func15 (by kernel_rfl) rfl #[.int .u64 t114, .int .i64 a1] rfl (by (try simp only [List.map_toArray, List.map_cons, List.map_nil]); first | done | rfl | (simp only [List.length_drop, List.length_take]; rfl)) ?_; (with_reducible refine (cast_Align.calls t114 a1 t118 true _ A20.out).mono ?_); rintro e w42 ⟨rfl, hb⟩; refine ⟨_, rfl, ?_⟩; have n0_ := Aside0.mk (below_step (by repeat (first | (with_reducible first | exact HB.out | apply below_alloc | apply pw_below_drewN | apply below_drew1) | exact HB.out)) hb); clear HB; have HB := n0_; clear n0_; (try clear hb); (try clear hb2); (try clear hk); (try clear hi)) | ((with_reducible refine gate_callee (f := 12) rfl ?_); refine goesL_ (some 77) rfl rfl Try.func12 (by kernel_rfl) rfl #[] rfl (by (try simp only [List.map_toArray, List.map_cons, List.map_nil]); first | done | rfl | (simp only [List.length_drop, List.length_take]; rfl)) ?_; (with_reducible refine (rotuletlaw02_alive.calls  true _ A21.out).mono ?_); rintro e w43 ⟨rfl, hb⟩; refine ⟨_, rfl, ?_⟩; have n0_ := Aside0.mk (below_step (by repeat (first | (with_reducible first | exact HB.out | apply below_alloc | apply pw_below_drewN | apply below_drew1) | exact HB.out)) hb); clear HB; have HB := n0_; clear n0_; (try clear hb); (try clear hb2); (try clear hk); (try clear hi)))
                              go_ret
                              exact ⟨by first | rfl | (simp [errW_none, errW_some] <;> rfl) | (simp only [← hji17, ← hji24, ← hji26]; first | rfl | (simp [errW_none, errW_some] <;> rfl)) | (simp [*, errW_none, errW_some] <;> rfl), by repeat (first | (with_reducible first | exact HB.out | apply below_alloc | apply pw_below_drewN | apply below_drew1) | exact HB.out)⟩
                            · replace c39 := Bool.eq_false_iff.mpr c39
                              subst c39
                              have H1 : (some false) = some r := by rw [if_neg (show ¬ (false = true) by decide)] at H; exact H
                              exact absurd (Option.some.inj H1) (by rw [HRT.out]; decide)
                          · rw [if_neg c38] at H
                            exact absurd (Option.some.inj H) (by rw [HRT.out]; decide)
                      · rw [if_neg c27] at H
                        exact absurd (Option.some.inj H) (by rw [HRT.out]; decide)
                    · rw [if_neg c25] at H
                      exact absurd H (by simp)
                  · rw [if_neg c23] at H
                    exact absurd (Option.some.inj H) (by rw [HRT.out]; decide)
                · replace c22 := Bool.eq_false_iff.mpr c22
                  subst c22
                  have H1 : (some false) = some r := by rw [if_neg (show ¬ (false = true) by decide)] at H; exact H
                  exact absurd (Option.some.inj H1) (by rw [HRT.out]; decide)
              · replace c19 := Bool.eq_false_iff.mpr c19
                subst c19
                have H1 : ((rotuletlaw02_alive.f).bind fun t121 => (if t121 = true then (if t114 = 0 then (if a1 > 0 then (if 0 ≤ (IntKind.u64.wrap (a1)) then (some (decide (a0 > (IntKind.u64.wrap (18446744073709551615 - (shl .u64 1 (IntKind.u64.wrap (a1)))))))) else (none)) else (some false)) else (some false)) else (some false))) = some r := by rw [if_neg (show ¬ (false = true) by decide)] at H; exact H
                clear H
                have H := H1
                clear H1
                replace H := Option.bind_eq_some_iff.mp H
                obtain ⟨t121, A640, H⟩ := H
                replace H : (if t121 = true then (if t114 = 0 then (if a1 > 0 then (if 0 ≤ (IntKind.u64.wrap (a1)) then (some (decide (a0 > (IntKind.u64.wrap (18446744073709551615 - (shl .u64 1 (IntKind.u64.wrap (a1)))))))) else (none)) else (some false)) else (some false)) else (some false)) = some r := H
                have A64 := Aside0.mk A640
                clear A640
                by_cases c65 : t121 = true
                · subst c65
                  have H1 : (if t114 = 0 then (if a1 > 0 then (if 0 ≤ (IntKind.u64.wrap (a1)) then (some (decide (a0 > (IntKind.u64.wrap (18446744073709551615 - (shl .u64 1 (IntKind.u64.wrap (a1)))))))) else (none)) else (some false)) else (some false)) = some r := by rw [if_pos rfl] at H; exact H
                  clear H
                  have H := H1
                  clear H1
                  by_cases c66 : t114 = 0
                  · rw [if_pos c66] at H
                    have c66b0 : (t114 == 0) = true := beq_iff_eq.mpr c66
                    have c66b1 : (t114 != 0) = false := bne_eq_false_iff_eq.mpr c66
                    clear c66
                    by_cases c67 : a1 > 0
                    · rw [if_pos c67] at H
                      have c67b0 : decide (0 < a1) = true := decide_eq_true c67
                      clear c67
                      obtain ⟨ji68, hji68⟩ : ∃ j_ : Int, (IntKind.u64.wrap (a1)) = j_ := ⟨_, rfl⟩
                      replace H : (if 0 ≤ (ji68) then (some (decide (a0 > (IntKind.u64.wrap (18446744073709551615 - (shl .u64 1 (ji68))))))) else (none)) = some r := by first | (rw [hji68] at H; exact H) | (simp only [hji68] at H ⊢; exact H)
                      (try rw [hji68] at A16)
                      (try rw [hji68] at A18)
                      (try rw [hji68] at A64)
                      by_cases c69 : 0 ≤ (ji68)
                      · rw [if_pos c69] at H
                        have c69b0 := eq_true c69
                        have c69b1 : decide (0 ≤ (ji68)) = true := decide_eq_true c69
                        clear c69
                        obtain ⟨ji70, hji70⟩ : ∃ j_ : Int, (shl .u64 1 (ji68)) = j_ := ⟨_, rfl⟩
                        replace H : (some (decide (a0 > (IntKind.u64.wrap (18446744073709551615 - (ji70)))))) = some r := by first | (rw [hji70] at H; exact H) | (simp only [hji70] at H ⊢; exact H)
                        (try rw [hji70] at A16)
                        (try rw [hji70] at A18)
                        (try rw [hji70] at A64)
                        have hji70_ : (IntKind.u64.wrap (1 * 2 ^ min (ji68).toNat 64)) = ji70 := hji70
                        have hji70z : (ji68) ≤ 64 → (IntKind.u64.wrap (1 * 2 ^ (ji68).toNat)) = ji70 := shl_small hji70
                        have hji70u : (IntKind.u64.wrap (2 ^ min (ji68).toNat 64)) = ji70 := by have h_ := hji70_; rw [Int.one_mul] at h_; exact h_
                        have hji70v : (ji68) ≤ 64 → (IntKind.u64.wrap (2 ^ (ji68).toNat)) = ji70 := fun hle_ => by have h_ := hji70z hle_; rw [Int.one_mul] at h_; exact h_
                        obtain rfl := Option.some.inj H
                        go_wp2_with (first | ((with_reducible refine gate_callee (f := 15) rfl ?_); refine goesL_ (some 42) rfl rfl Try.func15 (by kernel_rfl) rfl #[.int .u64 a0, .int .i64 a1] rfl (by (try simp only [List.map_toArray, List.map_cons, List.map_nil]); first | done | rfl | (simp only [List.length_drop, List.length_take]; rfl)) ?_; (with_reducible refine (cast_Align.calls a0 a1 t114 false _ A16.out).mono ?_); rintro e w71 ⟨rfl, hb⟩; refine ⟨_, rfl, ?_⟩; have n0_ := Aside0.mk (below_step (by repeat (first | (with_reducible first | exact HB.out | apply below_alloc | apply pw_below_drewN | apply below_drew1) | exact HB.out)) hb); clear HB; have HB := n0_; clear n0_; (try clear hb); (try clear hb2); (try clear hk); (try clear hi)) | ((with_reducible refine gate_callee (f := 11) rfl ?_); refine goesL_ (some 49) rfl rfl Try.func11 (by kernel_rfl) rfl #[.int .u64 t114, .int .i64 ji17] rfl (by (try simp only [List.map_toArray, List.map_cons, List.map_nil]); first | done | (simp only [hji17]; rfl) | rfl | (simp only [List.length_drop, List.length_take]; rfl)) ?_; (with_reducible refine (cast_Narrow.calls t114 ji17 t116 t117 _ A18.out).mono ?_); rintro e w72 ⟨rfl, hb⟩; refine ⟨_, rfl, ?_⟩; have n0_ := Aside0.mk (below_step (by repeat (first | (with_reducible first | exact HB.out | apply below_alloc | apply pw_below_drewN | apply below_drew1) | exact HB.out)) hb); clear HB; have HB := n0_; clear n0_; (try clear hb); (try clear hb2); (try clear hk); (try clear hi)) | ((with_reducible refine gate_callee (f := 12) rfl ?_); refine goesL_ (some 54) rfl rfl Try.func12 (by kernel_rfl) rfl #[] rfl (by (try simp only [List.map_toArray, List.map_cons, List.map_nil]); first | done | rfl | (simp only [List.length_drop, List.length_take]; rfl)) ?_; (with_reducible refine (rotuletlaw02_alive.calls  true _ A64.out).mono ?_); rintro e w73 ⟨rfl, hb⟩; refine ⟨_, rfl, ?_⟩; have n0_ := Aside0.mk (below_step (by repeat (first | (with_reducible first | exact HB.out | apply below_alloc | apply pw_below_drewN | apply below_drew1) | exact HB.out)) hb); clear HB; have HB := n0_; clear n0_; (try clear hb); (try clear hb2); (try clear hk); (try clear hi)))
                        go_ret
                        exact ⟨by first | rfl | (simp [errW_none, errW_some] <;> rfl) | (simp only [← hji17, ← hji68, ← hji70]; first | rfl | (simp [errW_none, errW_some] <;> rfl)) | (simp [*, errW_none, errW_some] <;> rfl), by repeat (first | (with_reducible first | exact HB.out | apply below_alloc | apply pw_below_drewN | apply below_drew1) | exact HB.out)⟩
                      · rw [if_neg c69] at H
                        exact absurd H (by simp)
                    · rw [if_neg c67] at H
                      exact absurd (Option.some.inj H) (by rw [HRT.out]; decide)
                  · rw [if_neg c66] at H
                    exact absurd (Option.some.inj H) (by rw [HRT.out]; decide)
                · replace c65 := Bool.eq_false_iff.mpr c65
                  subst c65
                  have H1 : (some false) = some r := by rw [if_neg (show ¬ (false = true) by decide)] at H; exact H
                  exact absurd (Option.some.inj H1) (by rw [HRT.out]; decide)
/-- THE ONE PURE STATEMENT of rotuletlaw02_CastPowers: yours. -/
def rotuletlaw02_CastPowers.Pure : Prop := ∀ (a0 : Int) (a1 : Int), (Lit.int .u64 a0).wf = true → (Lit.int .i64 a1).wf = true → ∃ k, rotuletlaw02_CastPowers.f k a0 a1 = some true
theorem rotuletlaw02_CastPowers.walk (P : rotuletlaw02_CastPowers.Pure) (a0 : Int) (a1 : Int) (w : World) (w0 : (Lit.int .u64 a0).wf = true) (w1 : (Lit.int .i64 a1).wf = true) :
    Calls Try.prog 7 #[.int .u64 a0, .int .i64 a1] w fun e w' => e = .returned (.bool true) ∧ Below w.heap.size w w' := by
  obtain ⟨k, h⟩ := P a0 a1 w0 w1
  refine (rotuletlaw02_CastPowers.calls k a0 a1 true rfl w h).mono ?_
  rintro e w' ⟨rfl, hd⟩
  exact ⟨rfl, hd⟩

end Go.Proofs.Ytjenbokdcbppoaa.Fn
