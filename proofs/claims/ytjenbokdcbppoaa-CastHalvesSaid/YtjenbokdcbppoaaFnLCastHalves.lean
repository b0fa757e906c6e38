/- The functions that the laws of this seat reach, as Lean functions, and for each the proof that the Go code comes to just these answers (lines written by the kit's print for these claims, joined by a program of ours; where a remark says so, by hand). Conditions: none. -/
import Derived.Test.YtjenbokdcbppoaaFn2
namespace Go.Proofs.Ytjenbokdcbppoaa.Fn
open Go.RowKit Go.Proofs.YtjenbokdcbppoaaW.PrintWords Go.Proofs.YtjenbokdcbppoaaW.PrintLast Go.Proofs.YtjenbokdcbppoaaW.PrintMore
attribute [local go_sem] max2_int min2_int max_two min_two max_three min_three max_four min_four   -- for this text's walks alone
set_option linter.unusedVariables false
set_option linter.unusedSimpArgs false
/-! ### rotuletlaw02_CastHalves: function 8 -/
mutual
def rotuletlaw02_CastHalves.l0 : Nat → Int → Int → Int → Int → Int → Int → Bool → Int → Option (Bool)
  | 0, _, _, _, _, _, _, _, _ => none
  | k + 1, x0, x1, x7, x8, x9, x10, x11, x12 => if x7 < x8 then (rotuletlaw02_CastHalves.j1 k x0 x1 x7 x8 x9 x10 x11 x12 (decide (x12 < 70))) else (rotuletlaw02_CastHalves.j1 k x0 x1 x7 x8 x9 x10 x11 x12 false)
def rotuletlaw02_CastHalves.j1 : Nat → Int → Int → Int → Int → Int → Int → Bool → Int → Bool → Option (Bool)
  | 0, _, _, _, _, _, _, _, _, _ => none
  | k + 1, x0, x1, x7, x8, x9, x10, x11, x12, x39 => if x39 = true then ((cast_Half.f x7 x8).bind fun t116 => (if t116 < x7 then (rotuletlaw02_CastHalves.j2 k x0 x1 x7 x8 x9 x10 x11 x12 t116 true) else (rotuletlaw02_CastHalves.j2 k x0 x1 x7 x8 x9 x10 x11 x12 t116 (decide (t116 ≥ x8))))) else ((rotuletlaw02_alive.f).bind fun t115 => (if t115 = true then (if x7 = x9 then (if x8 = x9 then (if x12 ≤ (wrap64 (x10 + 1)) then (some (x11 == (x0 != x1))) else (some false)) else (some false)) else (some false)) else (some false)))
def rotuletlaw02_CastHalves.j2 : Nat → Int → Int → Int → Int → Int → Int → Bool → Int → Int → Bool → Option (Bool)
  | 0, _, _, _, _, _, _, _, _, _, _ => none
  | k + 1, x0, x1, x7, x8, x9, x10, x11, x12, x13, x50 => if x50 = true then (some false) else (if x9 ≤ x13 then (rotuletlaw02_CastHalves.l0 k x0 x1 x7 x13 x9 x10 x11 (wrap64 (x12 + 1))) else (rotuletlaw02_CastHalves.l0 k x0 x1 (wrap64 (x13 + 1)) x8 x9 x10 x11 (wrap64 (x12 + 1))))
end
def rotuletlaw02_CastHalves.f (k : Nat) (a0 : Int) (a1 : Int) (a2 : Int) : Option (Bool) := (cast_Between.f a2 (mn a0 a1) (mx a0 a1)).bind fun t112 => ((cast_Log.f k (IntKind.u64.wrap ((IntKind.u64.wrap (mx a0 a1)) - (IntKind.u64.wrap (mn a0 a1))))).bind fun bt113 => (rotuletlaw02_CastHalves.l0 k a0 a1 (mn a0 a1) (mx a0 a1) t112 bt113.1 bt113.2 0))
theorem rotuletlaw02_CastHalves.mono_l : ∀ k, (∀ y0 y1 y2 y3 y4 y5 y6 y7, LeO (rotuletlaw02_CastHalves.l0 k y0 y1 y2 y3 y4 y5 y6 y7) (rotuletlaw02_CastHalves.l0 (k + 1) y0 y1 y2 y3 y4 y5 y6 y7)) ∧ (∀ y0 y1 y2 y3 y4 y5 y6 y7 y8, LeO (rotuletlaw02_CastHalves.j1 k y0 y1 y2 y3 y4 y5 y6 y7 y8) (rotuletlaw02_CastHalves.j1 (k + 1) y0 y1 y2 y3 y4 y5 y6 y7 y8)) ∧ (∀ y0 y1 y2 y3 y4 y5 y6 y7 y8 y9, LeO (rotuletlaw02_CastHalves.j2 k y0 y1 y2 y3 y4 y5 y6 y7 y8 y9) (rotuletlaw02_CastHalves.j2 (k + 1) y0 y1 y2 y3 y4 y5 y6 y7 y8 y9))
  | 0 => ⟨fun _ _ _ _ _ _ _ _ r h => by simp [rotuletlaw02_CastHalves.l0] at h, fun _ _ _ _ _ _ _ _ _ r h => by simp [rotuletlaw02_CastHalves.j1] at h, fun _ _ _ _ _ _ _ _ _ _ r h => by simp [rotuletlaw02_CastHalves.j2] at h⟩
  | k + 1 => by
    obtain ⟨ih0, ih1, ih2⟩ := rotuletlaw02_CastHalves.mono_l k
    refine ⟨?_, ?_, ?_⟩
    · intro y0 y1 y2 y3 y4 y5 y6 y7
      unfold rotuletlaw02_CastHalves.l0
      repeat' first
      | (with_reducible exact ih0 _ _ _ _ _ _ _ _)
      | (with_reducible exact ih1 _ _ _ _ _ _ _ _ _)
      | (with_reducible exact ih2 _ _ _ _ _ _ _ _ _ _)
      | (with_reducible exact cast_Log.mono _ _)
      | (with_reducible exact LeO.refl _)
      | (with_reducible exact LeO.none _)
      | (with_reducible refine LeO.ite ?_ ?_)
      | (with_reducible refine LeO.bind ?_ (fun _ => ?_))
      | exact ih0 _ _ _ _ _ _ _ _
      | exact ih1 _ _ _ _ _ _ _ _ _
      | exact ih2 _ _ _ _ _ _ _ _ _ _
      | exact cast_Log.mono _ _
      | exact LeO.none _
      | refine LeO.ite ?_ ?_
      | refine LeO.bind ?_ (fun _ => ?_)
    · intro y0 y1 y2 y3 y4 y5 y6 y7 y8
      unfold rotuletlaw02_CastHalves.j1
      repeat' first
      | (with_reducible exact ih0 _ _ _ _ _ _ _ _)
      | (with_reducible exact ih1 _ _ _ _ _ _ _ _ _)
      | (with_reducible exact ih2 _ _ _ _ _ _ _ _ _ _)
      | (with_reducible exact cast_Log.mono _ _)
      | (with_reducible exact LeO.refl _)
      | (with_reducible exact LeO.none _)
      | (with_reducible refine LeO.ite ?_ ?_)
      | (with_reducible refine LeO.bind ?_ (fun _ => ?_))
      | exact ih0 _ _ _ _ _ _ _ _
      | exact ih1 _ _ _ _ _ _ _ _ _
      | exact ih2 _ _ _ _ _ _ _ _ _ _
      | exact cast_Log.mono _ _
      | exact LeO.none _
      | refine LeO.ite ?_ ?_
      | refine LeO.bind ?_ (fun _ => ?_)
    · intro y0 y1 y2 y3 y4 y5 y6 y7 y8 y9
      unfold rotuletlaw02_CastHalves.j2
      repeat' first
      | (with_reducible exact ih0 _ _ _ _ _ _ _ _)
      | (with_reducible exact ih1 _ _ _ _ _ _ _ _ _)
      | (with_reducible exact ih2 _ _ _ _ _ _ _ _ _ _)
      | (with_reducible exact cast_Log.mono _ _)
      | (with_reducible exact LeO.refl _)
      | (with_reducible exact LeO.none _)
      | (with_reducible refine LeO.ite ?_ ?_)
      | (with_reducible refine LeO.bind ?_ (fun _ => ?_))
      | exact ih0 _ _ _ _ _ _ _ _
      | exact ih1 _ _ _ _ _ _ _ _ _
      | exact ih2 _ _ _ _ _ _ _ _ _ _
      | exact cast_Log.mono _ _
      | exact LeO.none _
      | refine LeO.ite ?_ ?_
      | refine LeO.bind ?_ (fun _ => ?_)
theorem rotuletlaw02_CastHalves.mono : ∀ a0 a1 a2 k, LeO (rotuletlaw02_CastHalves.f k a0 a1 a2) (rotuletlaw02_CastHalves.f (k + 1) a0 a1 a2) := by
  intro a0 a1 a2 k
  obtain ⟨ih0, ih1, ih2⟩ := rotuletlaw02_CastHalves.mono_l k
  unfold rotuletlaw02_CastHalves.f
  repeat' first
      | (with_reducible exact ih0 _ _ _ _ _ _ _ _)
      | (with_reducible exact ih1 _ _ _ _ _ _ _ _ _)
      | (with_reducible exact ih2 _ _ _ _ _ _ _ _ _ _)
      | (with_reducible exact cast_Log.mono _ _)
      | (with_reducible exact LeO.refl _)
      | (with_reducible exact LeO.none _)
      | (with_reducible refine LeO.ite ?_ ?_)
      | (with_reducible refine LeO.bind ?_ (fun _ => ?_))
      | exact ih0 _ _ _ _ _ _ _ _
      | exact ih1 _ _ _ _ _ _ _ _ _
      | exact ih2 _ _ _ _ _ _ _ _ _ _
      | exact cast_Log.mono _ _
      | exact LeO.none _
      | refine LeO.ite ?_ ?_
      | refine LeO.bind ?_ (fun _ => ?_)
set_option maxHeartbeats 8000000 in
set_option maxRecDepth 100000 in
theorem rotuletlaw02_CastHalves.calls (k : Nat) (a0 : Int) (a1 : Int) (a2 : Int) (r : Bool) (hrt : r = true) (w : World) (h : rotuletlaw02_CastHalves.f k a0 a1 a2 = some r) :
    Calls Try.prog 8 #[.int .i64 a0, .int .i64 a1, .int .i64 a2] w fun e w' => e = .returned (.bool r) ∧ Below w.heap.size w w' := by
  have HRT := Aside0.mk hrt
  clear hrt
  have HB := Aside0.mk (Below.refl w.heap.size w)
  have H : ((cast_Between.f a2 (mn a0 a1) (mx a0 a1)).bind fun t112 => ((cast_Log.f k (IntKind.u64.wrap ((IntKind.u64.wrap (mx a0 a1)) - (IntKind.u64.wrap (mn a0 a1))))).bind fun bt113 => (rotuletlaw02_CastHalves.l0 k a0 a1 (mn a0 a1) (mx a0 a1) t112 bt113.1 bt113.2 0))) = some r := h
  clear h
  obtain ⟨ji4, hji4⟩ : ∃ j_ : Int, (mn a0 a1) = j_ := ⟨_, rfl⟩
  replace H : ((cast_Between.f a2 (ji4) (mx a0 a1)).bind fun t112 => ((cast_Log.f k (IntKind.u64.wrap ((IntKind.u64.wrap (mx a0 a1)) - (IntKind.u64.wrap (ji4))))).bind fun bt113 => (rotuletlaw02_CastHalves.l0 k a0 a1 ji4 (mx a0 a1) t112 bt113.1 bt113.2 0))) = some r := by first | (rw [hji4] at H; exact H) | (simp only [hji4] at H ⊢; exact H)
  have hji4_ : (if a1 < a0 then a1 else a0) = ji4 := hji4
  obtain ⟨ji5, hji5⟩ : ∃ j_ : Int, (mx a0 a1) = j_ := ⟨_, rfl⟩
  replace H : ((cast_Between.f a2 (ji4) (ji5)).bind fun t112 => ((cast_Log.f k (IntKind.u64.wrap ((IntKind.u64.wrap (ji5)) - (IntKind.u64.wrap (ji4))))).bind fun bt113 => (rotuletlaw02_CastHalves.l0 k a0 a1 ji4 ji5 t112 bt113.1 bt113.2 0))) = some r := by first | (rw [hji5] at H; exact H) | (simp only [hji5] at H ⊢; exact H)
  have hji5_ : (if a0 < a1 then a1 else a0) = ji5 := hji5
  replace H := Option.bind_eq_some_iff.mp H
  obtain ⟨t112, A60, H⟩ := H
  replace H : ((cast_Log.f k (IntKind.u64.wrap ((IntKind.u64.wrap (ji5)) - (IntKind.u64.wrap (ji4))))).bind fun bt113 => (rotuletlaw02_CastHalves.l0 k a0 a1 ji4 ji5 t112 bt113.1 bt113.2 0)) = some r := H
  have A6 := Aside0.mk A60
  clear A60
  replace H := Option.bind_eq_some_iff.mp H
  obtain ⟨⟨t113, t114⟩, A70, H⟩ := H
  replace H : (rotuletlaw02_CastHalves.l0 k a0 a1 ji4 ji5 t112 t113 t114 0) = some r := H
  have A7 := Aside0.mk A70
  clear A70
  have H' := Aside0.mk H
  clear H
  go_enter Try.func8, Try.ntmps8
  go_wp2_with (first | ((with_reducible refine gate_callee (f := 17) rfl ?_); refine goesL_ (some 23) rfl rfl Try.func17 (by kernel_rfl) rfl #[.int .i64 a2, .int .i64 ji4, .int .i64 ji5] rfl (by (try simp only [List.map_toArray, List.map_cons, List.map_nil]); first | done | (simp only [hji4, hji5]; rfl) | rfl | (simp only [List.length_drop, List.length_take]; rfl)) ?_; (with_reducible refine (cast_Between.calls a2 ji4 ji5 t112 _ A6.out).mono ?_); rintro e w8 ⟨rfl, hb⟩; refine ⟨_, rfl, ?_⟩; have n0_ := Aside0.mk (below_step (by repeat (first | (with_reducible first | exact HB.out | apply below_alloc | apply pw_below_drewN | apply below_drew1) | exact HB.out)) hb); clear HB; have HB := n0_; clear n0_; (try clear hb); (try clear hb2); (try clear hk); (try clear hi)) | ((with_reducible refine gate_callee (f := 20) rfl ?_); refine goesL_ (some 30) rfl rfl Try.func20 (by kernel_rfl) rfl #[.int .u64 (IntKind.u64.wrap ((IntKind.u64.wrap (ji5)) - (IntKind.u64.wrap (ji4))))] rfl (by (try simp only [List.map_toArray, List.map_cons, List.map_nil]); first | done | (simp only [hji4, hji5]; rfl) | rfl | (simp only [List.length_drop, List.length_take]; rfl)) ?_; (with_reducible refine (cast_Log.calls k (IntKind.u64.wrap ((IntKind.u64.wrap (ji5)) - (IntKind.u64.wrap (ji4)))) t113 t114 _ A7.out).mono ?_); rintro e w' ⟨rfl, ⟨nd, rfl⟩⟩; refine ⟨_, rfl, ?_⟩))
  go_loopg [7, 8, 12] k (fun kq v7 v8 v12 w' => ∃ (x7_1 : Int) (x8_1 : Int) (x12_1 : Int), v7 = .int .i64 x7_1 ∧ v8 = .int .i64 x8_1 ∧ v12 = .int .i64 x12_1 ∧ Aside0 (rotuletlaw02_CastHalves.l0 kq a0 a1 x7_1 x8_1 t112 t113 t114 x12_1 = some r) ∧ Aside0 (kq ≤ k) ∧ Aside0 (Below w.heap.size w w'))
  case atStart => exact ⟨(ji4), (ji5), (0), (by first | rfl | (simp; done) | (simp only [← hji4] <;> (first | rfl | simp)) | (simp [*]; done)), (by first | rfl | (simp; done) | (simp only [← hji5] <;> (first | rfl | simp)) | (simp [*]; done)), (by first | rfl | (simp; done) | (simp [*]; done)), H', ⟨Nat.le_refl _⟩, ⟨by repeat (first | (with_reducible first | exact HB.out | apply below_alloc | apply pw_below_drewN | apply below_drew1) | exact HB.out)⟩⟩
  case round =>
    clear H'
    try clear c1
    try clear c2
    try clear p2
    try clear c8
    obtain ⟨x7_1, x8_1, x12_1, rfl, rfl, rfl, HA, HK1, HB⟩ := hrel
    cases gk with
    | zero => exact absurd HA.out (by simp [rotuletlaw02_CastHalves.l0])
    | succ k1 =>
      have H := HA.out
      clear HA
      simp only [rotuletlaw02_CastHalves.l0] at H
      have HC9 := Aside0.mk H
      clear H
      go_upto_region 6 with (fail)
      go_cut [39] (fun v39 wc => ∃ (kq : Nat) (x39_8 : Bool), v39 = .bool x39_8 ∧ Aside0 (rotuletlaw02_CastHalves.j1 kq a0 a1 x7_1 x8_1 t112 t113 t114 x12_1 x39_8 = some r) ∧ Aside0 (kq ≤ k1) ∧ Aside0 (Below w.heap.size w wc))
      case first =>
        have H := HC9.out
        clear HC9
        by_cases c10 : x7_1 < x8_1
        · rw [if_pos c10] at H
          have c10b0 : decide (x7_1 < x8_1) = true := decide_eq_true c10
          clear c10
          (first | rw [c10b0] | (simp only [i64_w, i32_w]; rw [c10b0]) | skip)
          have H' := Aside0.mk H
          clear H
          go_wp2
          go_meet
          case rel => exact ⟨_, (decide (x12_1 < 70)), (by first | rfl | (simp; done) | (simp [*]; done)), H', ⟨by have := HK1.out; first | omega | exact Nat.le_refl _⟩, ⟨by repeat (first | (with_reducible first | exact HB.out | apply below_alloc | apply pw_below_drewN | apply below_drew1) | exact HB.out)⟩⟩
        · rw [if_neg c10] at H
          have c10b0 : decide (x7_1 < x8_1) = false := decide_eq_false c10
          clear c10
          (first | rw [c10b0] | (simp only [i64_w, i32_w]; rw [c10b0]) | skip)
          have H' := Aside0.mk H
          clear H
          go_wp2
          go_meet
          case rel => exact ⟨_, (false), (by first | rfl | (simp; done) | (simp [*]; done)), H', ⟨by have := HK1.out; first | omega | exact Nat.le_refl _⟩, ⟨by repeat (first | (with_reducible first | exact HB.out | apply below_alloc | apply pw_below_drewN | apply below_drew1) | exact HB.out)⟩⟩
      case rest =>
        clear HC9
        try clear c1
        try clear c2
        try clear p2
        try clear c8
        try clear c10
        try clear c10b0
        try clear p2
        obtain ⟨kq, x39_8, rfl, HA, HJ8, HB⟩ := hcut
        cases kq with
        | zero => exact absurd HA.out (by simp [rotuletlaw02_CastHalves.j1])
        | succ kj8 =>
          have H := HA.out
          clear HA
          simp only [rotuletlaw02_CastHalves.j1] at H
          by_cases c11 : x39_8 = true
          · subst c11
            have H1 : ((cast_Half.f x7_1 x8_1).bind fun t116 => (if t116 < x7_1 then (rotuletlaw02_CastHalves.j2 kj8 a0 a1 x7_1 x8_1 t112 t113 t114 x12_1 t116 true) else (rotuletlaw02_CastHalves.j2 kj8 a0 a1 x7_1 x8_1 t112 t113 t114 x12_1 t116 (decide (t116 ≥ x8_1))))) = some r := by rw [if_pos rfl] at H; exact H
            clear H
            have H := H1
            clear H1
            replace H := Option.bind_eq_some_iff.mp H
            obtain ⟨t116, A120, H⟩ := H
            replace H : (if t116 < x7_1 then (rotuletlaw02_CastHalves.j2 kj8 a0 a1 x7_1 x8_1 t112 t113 t114 x12_1 t116 true) else (rotuletlaw02_CastHalves.j2 kj8 a0 a1 x7_1 x8_1 t112 t113 t114 x12_1 t116 (decide (t116 ≥ x8_1)))) = some r := H
            have A12 := Aside0.mk A120
            clear A120
            have HC13 := Aside0.mk H
            clear H
            go_upto_region 8 with (first | ((with_reducible refine gate_callee (f := 13) rfl ?_); refine goesL_ (some 42) rfl rfl Try.func13 (by kernel_rfl) rfl #[.int .i64 x7_1, .int .i64 x8_1] rfl (by (try simp only [List.map_toArray, List.map_cons, List.map_nil]); first | done | rfl | (simp only [List.length_drop, List.length_take]; rfl)) ?_; (with_reducible refine (cast_Half.calls x7_1 x8_1 t116 _ A12.out).mono ?_); rintro e w' ⟨rfl, ⟨nd, rfl⟩⟩; refine ⟨_, rfl, ?_⟩))
            (try simp only [Act.put, List.setIfInBounds_toArray, List.set_cons_zero, List.set_cons_succ])
            go_cut [50] (fun v50 wc => ∃ (kq : Nat) (x50_12 : Bool), v50 = .bool x50_12 ∧ Aside0 (rotuletlaw02_CastHalves.j2 kq a0 a1 x7_1 x8_1 t112 t113 t114 x12_1 t116 x50_12 = some r) ∧ Aside0 (kq ≤ kj8) ∧ Aside0 (Below w.heap.size w wc))
            case first =>
              have H := HC13.out
              clear HC13
              by_cases c14 : t116 < x7_1
              · rw [if_pos c14] at H
                have c14b0 : decide (t116 < x7_1) = true := decide_eq_true c14
                clear c14
                (first | rw [c14b0] | (simp only [i64_w, i32_w]; rw [c14b0]) | skip)
                have H' := Aside0.mk H
                clear H
                go_wp2
                go_meet
                case rel => exact ⟨_, (true), (by first | rfl | (simp; done) | (simp [*]; done)), H', ⟨by have := HK1.out; have := HJ8.out; first | omega | exact Nat.le_refl _⟩, ⟨by repeat (first | (with_reducible first | exact HB.out | apply below_alloc | apply pw_below_drewN | apply below_drew1) | exact HB.out)⟩⟩
              · rw [if_neg c14] at H
                have c14b0 : decide (t116 < x7_1) = false := decide_eq_false c14
                clear c14
                (first | rw [c14b0] | (simp only [i64_w, i32_w]; rw [c14b0]) | skip)
                have H' := Aside0.mk H
                clear H
                go_wp2
                go_meet
                case rel => exact ⟨_, (decide (t116 ≥ x8_1)), (by first | rfl | (simp; done) | (simp [*]; done)), H', ⟨by have := HK1.out; have := HJ8.out; first | omega | exact Nat.le_refl _⟩, ⟨by repeat (first | (with_reducible first | exact HB.out | apply below_alloc | apply pw_below_drewN | apply below_drew1) | exact HB.out)⟩⟩
            case rest =>
              clear HC13
              try clear c1
              try clear c2
              try clear p2
              try clear c8
              try clear c10
              try clear c10b0
              try clear c11
              try clear c13
              try clear c14
              try clear c14b0
              try clear p2
              obtain ⟨kq, x50_12, rfl, HA, HJ12, HB⟩ := hcut
              cases kq with
              | zero => exact absurd HA.out (by simp [rotuletlaw02_CastHalves.j2])
              | succ kj12 =>
                have H := HA.out
                clear HA
                simp only [rotuletlaw02_CastHalves.j2] at H
                by_cases c15 : x50_12 = true
                · subst c15
                  have H1 : (some false) = some r := by rw [if_pos rfl] at H; exact H
                  exact absurd (Option.some.inj H1) (by rw [HRT.out]; decide)
                · replace c15 := Bool.eq_false_iff.mpr c15
                  subst c15
                  have H1 : (if t112 ≤ t116 then (rotuletlaw02_CastHalves.l0 kj12 a0 a1 x7_1 t116 t112 t113 t114 (wrap64 (x12_1 + 1))) else (rotuletlaw02_CastHalves.l0 kj12 a0 a1 (wrap64 (t116 + 1)) x8_1 t112 t113 t114 (wrap64 (x12_1 + 1)))) = some r := by rw [if_neg (show ¬ (false = true) by decide)] at H; exact H
                  clear H
                  have H := H1
                  clear H1
                  by_cases c16 : t112 ≤ t116
                  · rw [if_pos c16] at H
                    have c16b0 : decide (t112 ≤ t116) = true := decide_eq_true c16
                    clear c16
                    have H' := Aside0.mk H
                    clear H
                    go_wp2
                    go_roundg kj12
                    case measure => have := HK1.out; have := HJ8.out; have := HJ12.out; omega
                    case rel => exact ⟨(x7_1), (t116), (wrap64 (x12_1 + 1)), (by first | rfl | (simp; done) | (simp [*]; done)), (by first | rfl | (simp; done) | (simp [*]; done)), (by first | rfl | (simp; done) | (simp [*]; done)), H', ⟨by have := HK1.out; have := HJ8.out; have := HJ12.out; omega⟩, ⟨by repeat (first | (with_reducible first | exact HB.out | apply below_alloc | apply pw_below_drewN | apply below_drew1) | exact HB.out)⟩⟩
                  · rw [if_neg c16] at H
                    have c16b0 : decide (t112 ≤ t116) = false := decide_eq_false c16
                    clear c16
                    have H' := Aside0.mk H
                    clear H
                    go_wp2
                    go_roundg kj12
                    case measure => have := HK1.out; have := HJ8.out; have := HJ12.out; omega
                    case rel => exact ⟨(wrap64 (t116 + 1)), (x8_1), (wrap64 (x12_1 + 1)), (by first | rfl | (simp; done) | (simp [*]; done)), (by first | rfl | (simp; done) | (simp [*]; done)), (by first | rfl | (simp; done) | (simp [*]; done)), H', ⟨by have := HK1.out; have := HJ8.out; have := HJ12.out; omega⟩, ⟨by repeat (first | (with_reducible first | exact HB.out | apply below_alloc | apply pw_below_drewN | apply below_drew1) | exact HB.out)⟩⟩
          · replace c11 := Bool.eq_false_iff.mpr c11
            subst c11
            have H1 : ((rotuletlaw02_alive.f).bind fun t115 => (if t115 = true then (if x7_1 = t112 then (if x8_1 = t112 then (if x12_1 ≤ (wrap64 (t113 + 1)) then (some (t114 == (a0 != a1))) else (some false)) else (some false)) else (some false)) else (some false))) = some r := by rw [if_neg (show ¬ (false = true) by decide)] at H; exact H
            clear H
            have H := H1
            clear H1
            replace H := Option.bind_eq_some_iff.mp H
            obtain ⟨t115, A170, H⟩ := H
            replace H : (if t115 = true then (if x7_1 = t112 then (if x8_1 = t112 then (if x12_1 ≤ (wrap64 (t113 + 1)) then (some (t114 == (a0 != a1))) else (some false)) else (some false)) else (some false)) else (some false)) = some r := H
            have A17 := Aside0.mk A170
            clear A170
            by_cases c18 : t115 = true
            · subst c18
              have H1 : (if x7_1 = t112 then (if x8_1 = t112 then (if x12_1 ≤ (wrap64 (t113 + 1)) then (some (t114 == (a0 != a1))) else (some false)) else (some false)) else (some false)) = some r := by rw [if_pos rfl] at H; exact H
              clear H
              have H := H1
              clear H1
              by_cases c19 : x7_1 = t112
              · rw [if_pos c19] at H
                have c19b0 : (x7_1 == t112) = true := beq_iff_eq.mpr c19
                have c19b1 : (x7_1 != t112) = false := bne_eq_false_iff_eq.mpr c19
                clear c19
                by_cases c20 : x8_1 = t112
                · rw [if_pos c20] at H
                  have c20b0 : (x8_1 == t112) = true := beq_iff_eq.mpr c20
                  have c20b1 : (x8_1 != t112) = false := bne_eq_false_iff_eq.mpr c20
                  clear c20
                  by_cases c21 : x12_1 ≤ (wrap64 (t113 + 1))
                  · rw [if_pos c21] at H
                    have c21b0 : decide (x12_1 ≤ (wrap64 (t113 + 1))) = true := decide_eq_true c21
                    clear c21
                    obtain rfl := Option.some.inj H
                    go_wp2_with (first | ((with_reducible refine gate_callee (f := 12) rfl ?_); refine goesL_ (some 59) rfl rfl Try.func12 (by kernel_rfl) rfl #[] rfl (by (try simp only [List.map_toArray, List.map_cons, List.map_nil]); first | done | rfl | (simp only [List.length_drop, List.length_take]; rfl)) ?_; (with_reducible refine (rotuletlaw02_alive.calls  true _ A17.out).mono ?_); rintro e w22 ⟨rfl, hb⟩; refine ⟨_, rfl, ?_⟩; have n0_ := Aside0.mk (below_step (by repeat (first | (with_reducible first | exact HB.out | apply below_alloc | apply pw_below_drewN | apply below_drew1) | exact HB.out)) hb); clear HB; have HB := n0_; clear n0_; (try clear hb); (try clear hb2); (try clear hk); (try clear hi)))
                    go_ret
                    exact ⟨by first | rfl | (simp [errW_none, errW_some] <;> rfl) | (simp only [← hji4, ← hji5]; first | rfl | (simp [errW_none, errW_some] <;> rfl)) | (simp [*, errW_none, errW_some] <;> rfl), by repeat (first | (with_reducible first | exact HB.out | apply below_alloc | apply pw_below_drewN | apply below_drew1) | exact HB.out)⟩
                  · rw [if_neg c21] at H
                    exact absurd (Option.some.inj H) (by rw [HRT.out]; decide)
                · rw [if_neg c20] at H
                  exact absurd (Option.some.inj H) (by rw [HRT.out]; decide)
              · rw [if_neg c19] at H
                exact absurd (Option.some.inj H) (by rw [HRT.out]; decide)
            · replace c18 := Bool.eq_false_iff.mpr c18
              subst c18
              have H1 : (some false) = some r := by rw [if_neg (show ¬ (false = true) by decide)] at H; exact H
              exact absurd (Option.some.inj H1) (by rw [HRT.out]; decide)
/-- THE ONE PURE STATEMENT of rotuletlaw02_CastHalves: yours. -/
def rotuletlaw02_CastHalves.Pure : Prop := ∀ (a0 : Int) (a1 : Int) (a2 : Int), (Lit.int .i64 a0).wf = true → (Lit.int .i64 a1).wf = true → (Lit.int .i64 a2).wf = true → ∃ k, rotuletlaw02_CastHalves.f k a0 a1 a2 = some true
theorem rotuletlaw02_CastHalves.walk (P : rotuletlaw02_CastHalves.Pure) (a0 : Int) (a1 : Int) (a2 : Int) (w : World) (w0 : (Lit.int .i64 a0).wf = true) (w1 : (Lit.int .i64 a1).wf = true) (w2 : (Lit.int .i64 a2).wf = true) :
    Calls Try.prog 8 #[.int .i64 a0, .int .i64 a1, .int .i64 a2] w fun e w' => e = .returned (.bool true) ∧ Below w.heap.size w w' := by
  obtain ⟨k, h⟩ := P a0 a1 a2 w0 w1 w2
  refine (rotuletlaw02_CastHalves.calls k a0 a1 a2 true rfl w h).mono ?_
  rintro e w' ⟨rfl, hd⟩
  exact ⟨rfl, hd⟩

end Go.Proofs.Ytjenbokdcbppoaa.Fn
