/- The functions that the laws of this seat reach, as Lean functions, and for each the proof that the Go code comes to just these answers (lines written by the kit's print for these claims, joined by a program of ours; where a remark says so, by hand). Conditions: none. -/
import Derived.Test.YtjenbokdcbppoaaFn2
namespace Go.Proofs.Ytjenbokdcbppoaa.Fn
open Go.RowKit Go.Proofs.YtjenbokdcbppoaaW.PrintWords Go.Proofs.YtjenbokdcbppoaaW.PrintLast Go.Proofs.YtjenbokdcbppoaaW.PrintMore
attribute [local go_sem] max2_int min2_int max_two min_two max_three min_three max_four min_four   -- for this text's walks alone
set_option linter.unusedVariables false
set_option linter.unusedSimpArgs false
/-! ### rotuletlaw02_CastBack: function 6 -/
def rotuletlaw02_CastBack.j0 : Nat → Int → Int → Int → Bool → Option (Bool)
  | 0, _, _, _, _ => none
  | k + 1, x1, x6, x7, x45 => if x45 = true then (some false) else ((rotuletlaw02_alive.f).bind fun t121 => (if t121 = true then ((cast_Fits.f x6 x1).bind fun t122 => (if t122 = true then ((cast_Fits.f x7 x1).bind fun t123 => (if t123 = true then ((cast_Wrap.f x6 x1).bind fun t124 => (if t124 = x6 then ((cast_Clamp.f x7 x1).bind fun t125 => (some (t125 == x7))) else (some false))) else (some false))) else (some false))) else (some false)))
def rotuletlaw02_CastBack.f (k : Nat) (a0 : Int) (a1 : Int) : Option (Bool) := (cast_Wrap.f a0 a1).bind fun t114 => ((cast_Clamp.f a0 a1).bind fun t115 => ((cast_Fits.f a0 a1).bind fun t116 => ((cast_Zig.f a0).bind fun t117 => ((cast_Zag.f t117).bind fun t118 => (if t118 = a0 then ((cast_Zag.f (IntKind.u64.wrap (a0))).bind fun t119 => ((cast_Zig.f t119).bind fun t120 => (if t120 = (IntKind.u64.wrap (a0)) then (if (t116 != (t114 == a0)) = true then (rotuletlaw02_CastBack.j0 k a1 t114 t115 true) else (rotuletlaw02_CastBack.j0 k a1 t114 t115 (t116 != (t115 == a0)))) else (rotuletlaw02_CastBack.j0 k a1 t114 t115 true)))) else (rotuletlaw02_CastBack.j0 k a1 t114 t115 true))))))
theorem rotuletlaw02_CastBack.mono_l : ∀ k, (∀ y0 y1 y2 y3, LeO (rotuletlaw02_CastBack.j0 k y0 y1 y2 y3) (rotuletlaw02_CastBack.j0 (k + 1) y0 y1 y2 y3))
  | 0 => fun _ _ _ _ r h => by simp [rotuletlaw02_CastBack.j0] at h
  | k + 1 => by
    have ih0 := rotuletlaw02_CastBack.mono_l k
    · intro y0 y1 y2 y3
      unfold rotuletlaw02_CastBack.j0
      repeat' first
      | (with_reducible exact ih0 _ _ _ _)
      | (with_reducible exact LeO.refl _)
      | (with_reducible exact LeO.none _)
      | (with_reducible refine LeO.ite ?_ ?_)
      | (with_reducible refine LeO.bind ?_ (fun _ => ?_))
      | exact ih0 _ _ _ _
      | exact LeO.none _
      | refine LeO.ite ?_ ?_
      | refine LeO.bind ?_ (fun _ => ?_)
theorem rotuletlaw02_CastBack.mono : ∀ a0 a1 k, LeO (rotuletlaw02_CastBack.f k a0 a1) (rotuletlaw02_CastBack.f (k + 1) a0 a1) := by
  intro a0 a1 k
  have ih0 := rotuletlaw02_CastBack.mono_l k
  unfold rotuletlaw02_CastBack.f
  repeat' first
      | (with_reducible exact ih0 _ _ _ _)
      | (with_reducible exact LeO.refl _)
      | (with_reducible exact LeO.none _)
      | (with_reducible refine LeO.ite ?_ ?_)
      | (with_reducible refine LeO.bind ?_ (fun _ => ?_))
      | exact ih0 _ _ _ _
      | exact LeO.none _
      | refine LeO.ite ?_ ?_
      | refine LeO.bind ?_ (fun _ => ?_)
set_option maxHeartbeats 8000000 in
set_option maxRecDepth 100000 in
theorem rotuletlaw02_CastBack.calls (k : Nat) (a0 : Int) (a1 : Int) (r : Bool) (hrt : r = true) (w : World) (h : rotuletlaw02_CastBack.f k a0 a1 = some r) :
    Calls Try.prog 6 #[.int .i64 a0, .int .i64 a1] w fun e w' => e = .returned (.bool r) ∧ Below w.heap.size w w' := by
  have HRT := Aside0.mk hrt
  clear hrt
  have HB := Aside0.mk (Below.refl w.heap.size w)
  have H : ((cast_Wrap.f a0 a1).bind fun t114 => ((cast_Clamp.f a0 a1).bind fun t115 => ((cast_Fits.f a0 a1).bind fun t116 => ((cast_Zig.f a0).bind fun t117 => ((cast_Zag.f t117).bind fun t118 => (if t118 = a0 then ((cast_Zag.f (IntKind.u64.wrap (a0))).bind fun t119 => ((cast_Zig.f t119).bind fun t120 => (if t120 = (IntKind.u64.wrap (a0)) then (if (t116 != (t114 == a0)) = true then (rotuletlaw02_CastBack.j0 k a1 t114 t115 true) else (rotuletlaw02_CastBack.j0 k a1 t114 t115 (t116 != (t115 == a0)))) else (rotuletlaw02_CastBack.j0 k a1 t114 t115 true)))) else (rotuletlaw02_CastBack.j0 k a1 t114 t115 true))))))) = some r := h
  clear h
  replace H := Option.bind_eq_some_iff.mp H
  obtain ⟨t114, A30, H⟩ := H
  replace H : ((cast_Clamp.f a0 a1).bind fun t115 => ((cast_Fits.f a0 a1).bind fun t116 => ((cast_Zig.f a0).bind fun t117 => ((cast_Zag.f t117).bind fun t118 => (if t118 = a0 then ((cast_Zag.f (IntKind.u64.wrap (a0))).bind fun t119 => ((cast_Zig.f t119).bind fun t120 => (if t120 = (IntKind.u64.wrap (a0)) then (if (t116 != (t114 == a0)) = true then (rotuletlaw02_CastBack.j0 k a1 t114 t115 true) else (rotuletlaw02_CastBack.j0 k a1 t114 t115 (t116 != (t115 == a0)))) else (rotuletlaw02_CastBack.j0 k a1 t114 t115 true)))) else (rotuletlaw02_CastBack.j0 k a1 t114 t115 true)))))) = some r := H
  have A3 := Aside0.mk A30
  clear A30
  replace H := Option.bind_eq_some_iff.mp H
  obtain ⟨t115, A40, H⟩ := H
  replace H : ((cast_Fits.f a0 a1).bind fun t116 => ((cast_Zig.f a0).bind fun t117 => ((cast_Zag.f t117).bind fun t118 => (if t118 = a0 then ((cast_Zag.f (IntKind.u64.wrap (a0))).bind fun t119 => ((cast_Zig.f t119).bind fun t120 => (if t120 = (IntKind.u64.wrap (a0)) then (if (t116 != (t114 == a0)) = true then (rotuletlaw02_CastBack.j0 k a1 t114 t115 true) else (rotuletlaw02_CastBack.j0 k a1 t114 t115 (t116 != (t115 == a0)))) else (rotuletlaw02_CastBack.j0 k a1 t114 t115 true)))) else (rotuletlaw02_CastBack.j0 k a1 t114 t115 true))))) = some r := H
  have A4 := Aside0.mk A40
  clear A40
  replace H := Option.bind_eq_some_iff.mp H
  obtain ⟨t116, A50, H⟩ := H
  replace H : ((cast_Zig.f a0).bind fun t117 => ((cast_Zag.f t117).bind fun t118 => (if t118 = a0 then ((cast_Zag.f (IntKind.u64.wrap (a0))).bind fun t119 => ((cast_Zig.f t119).bind fun t120 => (if t120 = (IntKind.u64.wrap (a0)) then (if (t116 != (t114 == a0)) = true then (rotuletlaw02_CastBack.j0 k a1 t114 t115 true) else (rotuletlaw02_CastBack.j0 k a1 t114 t115 (t116 != (t115 == a0)))) else (rotuletlaw02_CastBack.j0 k a1 t114 t115 true)))) else (rotuletlaw02_CastBack.j0 k a1 t114 t115 true)))) = some r := H
  have A5 := Aside0.mk A50
  clear A50
  have HC6 := Aside0.mk H
  clear H
  go_enter Try.func6, Try.ntmps6
  go_upto_region 5 with (first | ((with_reducible refine gate_callee (f := 10) rfl ?_); refine goesL_ (some 13) rfl rfl Try.func10 (by kernel_rfl) rfl #[.int .i64 a0, .int .i64 a1] rfl (by (try simp only [List.map_toArray, List.map_cons, List.map_nil]); first | done | rfl | (simp only [List.length_drop, List.length_take]; rfl)) ?_; (with_reducible refine (cast_Wrap.calls a0 a1 t114 _ A3.out).mono ?_); rintro e w7 ⟨rfl, hb⟩; refine ⟨_, rfl, ?_⟩; have n0_ := Aside0.mk (below_step (by repeat (first | (with_reducible first | exact HB.out | apply below_alloc | apply pw_below_drewN | apply below_drew1) | exact HB.out)) hb); clear HB; have HB := n0_; clear n0_; (try clear hb); (try clear hb2); (try clear hk); (try clear hi)) | ((with_reducible refine gate_callee (f := 14) rfl ?_); refine goesL_ (some 16) rfl rfl Try.func14 (by kernel_rfl) rfl #[.int .i64 a0, .int .i64 a1] rfl (by (try simp only [List.map_toArray, List.map_cons, List.map_nil]); first | done | rfl | (simp only [List.length_drop, List.length_take]; rfl)) ?_; (with_reducible refine (cast_Clamp.calls a0 a1 t115 _ A4.out).mono ?_); rintro e w8 ⟨rfl, hb⟩; refine ⟨_, rfl, ?_⟩; have n0_ := Aside0.mk (below_step (by repeat (first | (with_reducible first | exact HB.out | apply below_alloc | apply pw_below_drewN | apply below_drew1) | exact HB.out)) hb); clear HB; have HB := n0_; clear n0_; (try clear hb); (try clear hb2); (try clear hk); (try clear hi)) | ((with_reducible refine gate_callee (f := 18) rfl ?_); refine goesL_ (some 19) rfl rfl Try.func18 (by kernel_rfl) rfl #[.int .i64 a0, .int .i64 a1] rfl (by (try simp only [List.map_toArray, List.map_cons, List.map_nil]); first | done | rfl | (simp only [List.length_drop, List.length_take]; rfl)) ?_; (with_reducible refine (cast_Fits.calls a0 a1 t116 _ A5.out).mono ?_); rintro e w9 ⟨rfl, hb⟩; refine ⟨_, rfl, ?_⟩; have n0_ := Aside0.mk (below_step (by repeat (first | (with_reducible first | exact HB.out | apply below_alloc | apply pw_below_drewN | apply below_drew1) | exact HB.out)) hb); clear HB; have HB := n0_; clear n0_; (try clear hb); (try clear hb2); (try clear hk); (try clear hi)))
  (try simp only [Act.put, List.setIfInBounds_toArray, List.set_cons_zero, List.set_cons_succ])
  go_cut [45] (fun v45 wc => ∃ (kq : Nat) (x45_5 : Bool), v45 = .bool x45_5 ∧ Aside0 (rotuletlaw02_CastBack.j0 kq a1 t114 t115 x45_5 = some r) ∧ Aside0 (kq ≤ k) ∧ Aside0 (Below w.heap.size w wc))
  case first =>
    have H := HC6.out
    clear HC6
    replace H := Option.bind_eq_some_iff.mp H
    obtain ⟨t117, A100, H⟩ := H
    replace H : ((cast_Zag.f t117).bind fun t118 => (if t118 = a0 then ((cast_Zag.f (IntKind.u64.wrap (a0))).bind fun t119 => ((cast_Zig.f t119).bind fun t120 => (if t120 = (IntKind.u64.wrap (a0)) then (if (t116 != (t114 == a0)) = true then (rotuletlaw02_CastBack.j0 k a1 t114 t115 true) else (rotuletlaw02_CastBack.j0 k a1 t114 t115 (t116 != (t115 == a0)))) else (rotuletlaw02_CastBack.j0 k a1 t114 t115 true)))) else (rotuletlaw02_CastBack.j0 k a1 t114 t115 true))) = some r := H
    have A10 := Aside0.mk A100
    clear A100
    replace H := Option.bind_eq_some_iff.mp H
    obtain ⟨t118, A110, H⟩ := H
    replace H : (if t118 = a0 then ((cast_Zag.f (IntKind.u64.wrap (a0))).bind fun t119 => ((cast_Zig.f t119).bind fun t120 => (if t120 = (IntKind.u64.wrap (a0)) then (if (t116 != (t114 == a0)) = true then (rotuletlaw02_CastBack.j0 k a1 t114 t115 true) else (rotuletlaw02_CastBack.j0 k a1 t114 t115 (t116 != (t115 == a0)))) else (rotuletlaw02_CastBack.j0 k a1 t114 t115 true)))) else (rotuletlaw02_CastBack.j0 k a1 t114 t115 true)) = some r := H
    have A11 := Aside0.mk A110
    clear A110
    by_cases c12 : t118 = a0
    · rw [if_pos c12] at H
      have c12b0 : (t118 == a0) = true := beq_iff_eq.mpr c12
      have c12b1 : (t118 != a0) = false := bne_eq_false_iff_eq.mpr c12
      clear c12
      (first | rw [c12b0] | (simp only [i64_w, i32_w]; rw [c12b0]) | skip)
      replace H := Option.bind_eq_some_iff.mp H
      obtain ⟨t119, A130, H⟩ := H
      replace H : ((cast_Zig.f t119).bind fun t120 => (if t120 = (IntKind.u64.wrap (a0)) then (if (t116 != (t114 == a0)) = true then (rotuletlaw02_CastBack.j0 k a1 t114 t115 true) else (rotuletlaw02_CastBack.j0 k a1 t114 t115 (t116 != (t115 == a0)))) else (rotuletlaw02_CastBack.j0 k a1 t114 t115 true))) = some r := H
      have A13 := Aside0.mk A130
      clear A130
      replace H := Option.bind_eq_some_iff.mp H
      obtain ⟨t120, A140, H⟩ := H
      replace H : (if t120 = (IntKind.u64.wrap (a0)) then (if (t116 != (t114 == a0)) = true then (rotuletlaw02_CastBack.j0 k a1 t114 t115 true) else (rotuletlaw02_CastBack.j0 k a1 t114 t115 (t116 != (t115 == a0)))) else (rotuletlaw02_CastBack.j0 k a1 t114 t115 true)) = some r := H
      have A14 := Aside0.mk A140
      clear A140
      by_cases c15 : t120 = (IntKind.u64.wrap (a0))
      · rw [if_pos c15] at H
        have c15b0 : (t120 == (IntKind.u64.wrap (a0))) = true := beq_iff_eq.mpr c15
        have c15b1 : (t120 != (IntKind.u64.wrap (a0))) = false := bne_eq_false_iff_eq.mpr c15
        clear c15
        by_cases c16 : (t116 != (t114 == a0)) = true
        · rw [if_pos c16] at H
          have c16b0 : (t116 != (t114 == a0)) = true := c16
          (try (have c16b1 : decide (t116 = (t114 == a0)) = false := by simpa using c16))
          (try (have c16b2 : (t116 == (t114 == a0)) = false := by simpa using c16))
          (try (have c16b3 : ¬ (t116 = (t114 == a0)) := by simpa using c16))
          clear c16
          have H' := Aside0.mk H
          clear H
          go_wp2_with (first | ((with_reducible refine gate_callee (f := 16) rfl ?_); refine goesL_ (some 21) rfl rfl Try.func16 (by kernel_rfl) rfl #[.int .i64 a0] rfl (by (try simp only [List.map_toArray, List.map_cons, List.map_nil]); first | done | rfl | (simp only [List.length_drop, List.length_take]; rfl)) ?_; (with_reducible refine (cast_Zig.calls a0 t117 _ A10.out).mono ?_); rintro e w' ⟨rfl, ⟨nd, rfl⟩⟩; refine ⟨_, rfl, ?_⟩) | ((with_reducible refine gate_callee (f := 19) rfl ?_); refine goesL_ (some 22) rfl rfl Try.func19 (by kernel_rfl) rfl #[.int .u64 t117] rfl (by (try simp only [List.map_toArray, List.map_cons, List.map_nil]); first | done | rfl | (simp only [List.length_drop, List.length_take]; rfl)) ?_; (with_reducible refine (cast_Zag.calls t117 t118 _ A11.out).mono ?_); rintro e w' ⟨rfl, ⟨nd, rfl⟩⟩; refine ⟨_, rfl, ?_⟩) | (go_at_call 19; (with_reducible refine (cast_Zag.calls (IntKind.u64.wrap (a0)) t119 _ A13.out).mono ?_); rintro e w' ⟨rfl, ⟨nd, rfl⟩⟩) | (go_at_call 16; (with_reducible refine (cast_Zig.calls t119 t120 _ A14.out).mono ?_); rintro e w' ⟨rfl, ⟨nd, rfl⟩⟩))
          go_meet
          case rel => exact ⟨_, (true), (by first | rfl | (simp; done) | (simp [*]; done)), H', ⟨by first | omega | exact Nat.le_refl _⟩, ⟨by repeat (first | (with_reducible first | exact HB.out | apply below_alloc | apply pw_below_drewN | apply below_drew1) | exact HB.out)⟩⟩
        · rw [if_neg c16] at H
          have c16b0 : (t116 != (t114 == a0)) = false := by simpa using c16
          (try (have c16b1 : decide (t116 = (t114 == a0)) = true := by simpa using c16))
          (try (have c16b2 : (t116 == (t114 == a0)) = true := by simpa using c16))
          clear c16
          have H' := Aside0.mk H
          clear H
          go_wp2_with (first | ((with_reducible refine gate_callee (f := 16) rfl ?_); refine goesL_ (some 21) rfl rfl Try.func16 (by kernel_rfl) rfl #[.int .i64 a0] rfl (by (try simp only [List.map_toArray, List.map_cons, List.map_nil]); first | done | rfl | (simp only [List.length_drop, List.length_take]; rfl)) ?_; (with_reducible refine (cast_Zig.calls a0 t117 _ A10.out).mono ?_); rintro e w' ⟨rfl, ⟨nd, rfl⟩⟩; refine ⟨_, rfl, ?_⟩) | ((with_reducible refine gate_callee (f := 19) rfl ?_); refine goesL_ (some 22) rfl rfl Try.func19 (by kernel_rfl) rfl #[.int .u64 t117] rfl (by (try simp only [List.map_toArray, List.map_cons, List.map_nil]); first | done | rfl | (simp only [List.length_drop, List.length_take]; rfl)) ?_; (with_reducible refine (cast_Zag.calls t117 t118 _ A11.out).mono ?_); rintro e w' ⟨rfl, ⟨nd, rfl⟩⟩; refine ⟨_, rfl, ?_⟩) | (go_at_call 19; (with_reducible refine (cast_Zag.calls (IntKind.u64.wrap (a0)) t119 _ A13.out).mono ?_); rintro e w' ⟨rfl, ⟨nd, rfl⟩⟩) | (go_at_call 16; (with_reducible refine (cast_Zig.calls t119 t120 _ A14.out).mono ?_); rintro e w' ⟨rfl, ⟨nd, rfl⟩⟩))
          go_meet
          case rel => exact ⟨_, ((t116 != (t115 == a0))), (by first | rfl | (simp; done) | (simp [*]; done)), H', ⟨by first | omega | exact Nat.le_refl _⟩, ⟨by repeat (first | (with_reducible first | exact HB.out | apply below_alloc | apply pw_below_drewN | apply below_drew1) | exact HB.out)⟩⟩
      · rw [if_neg c15] at H
        have c15b0 : (t120 == (IntKind.u64.wrap (a0))) = false := beq_eq_false_iff_ne.mpr c15
        have c15b1 : (t120 != (IntKind.u64.wrap (a0))) = true := bne_iff_ne.mpr c15
        have H' := Aside0.mk H
        clear H
        go_wp2_with (first | ((with_reducible refine gate_callee (f := 16) rfl ?_); refine goesL_ (some 21) rfl rfl Try.func16 (by kernel_rfl) rfl #[.int .i64 a0] rfl (by (try simp only [List.map_toArray, List.map_cons, List.map_nil]); first | done | rfl | (simp only [List.length_drop, List.length_take]; rfl)) ?_; (with_reducible refine (cast_Zig.calls a0 t117 _ A10.out).mono ?_); rintro e w' ⟨rfl, ⟨nd, rfl⟩⟩; refine ⟨_, rfl, ?_⟩) | ((with_reducible refine gate_callee (f := 19) rfl ?_); refine goesL_ (some 22) rfl rfl Try.func19 (by kernel_rfl) rfl #[.int .u64 t117] rfl (by (try simp only [List.map_toArray, List.map_cons, List.map_nil]); first | done | rfl | (simp only [List.length_drop, List.length_take]; rfl)) ?_; (with_reducible refine (cast_Zag.calls t117 t118 _ A11.out).mono ?_); rintro e w' ⟨rfl, ⟨nd, rfl⟩⟩; refine ⟨_, rfl, ?_⟩) | (go_at_call 19; (with_reducible refine (cast_Zag.calls (IntKind.u64.wrap (a0)) t119 _ A13.out).mono ?_); rintro e w' ⟨rfl, ⟨nd, rfl⟩⟩) | (go_at_call 16; (with_reducible refine (cast_Zig.calls t119 t120 _ A14.out).mono ?_); rintro e w' ⟨rfl, ⟨nd, rfl⟩⟩))
        go_meet
        case rel => exact ⟨_, (true), (by first | rfl | (simp; done) | (simp [*]; done)), H', ⟨by first | omega | exact Nat.le_refl _⟩, ⟨by repeat (first | (with_reducible first | exact HB.out | apply below_alloc | apply pw_below_drewN | apply below_drew1) | exact HB.out)⟩⟩
    · rw [if_neg c12] at H
      have c12b0 : (t118 == a0) = false := beq_eq_false_iff_ne.mpr c12
      have c12b1 : (t118 != a0) = true := bne_iff_ne.mpr c12
      (first | rw [c12b0] | (simp only [i64_w, i32_w]; rw [c12b0]) | skip)
      have H' := Aside0.mk H
      clear H
      go_wp2_with (first | ((with_reducible refine gate_callee (f := 16) rfl ?_); refine goesL_ (some 21) rfl rfl Try.func16 (by kernel_rfl) rfl #[.int .i64 a0] rfl (by (try simp only [List.map_toArray, List.map_cons, List.map_nil]); first | done | rfl | (simp only [List.length_drop, List.length_take]; rfl)) ?_; (with_reducible refine (cast_Zig.calls a0 t117 _ A10.out).mono ?_); rintro e w' ⟨rfl, ⟨nd, rfl⟩⟩; refine ⟨_, rfl, ?_⟩) | ((with_reducible refine gate_callee (f := 19) rfl ?_); refine goesL_ (some 22) rfl rfl Try.func19 (by kernel_rfl) rfl #[.int .u64 t117] rfl (by (try simp only [List.map_toArray, List.map_cons, List.map_nil]); first | done | rfl | (simp only [List.length_drop, List.length_take]; rfl)) ?_; (with_reducible refine (cast_Zag.calls t117 t118 _ A11.out).mono ?_); rintro e w' ⟨rfl, ⟨nd, rfl⟩⟩; refine ⟨_, rfl, ?_⟩))
      go_meet
      case rel => exact ⟨_, (true), (by first | rfl | (simp; done) | (simp [*]; done)), H', ⟨by first | omega | exact Nat.le_refl _⟩, ⟨by repeat (first | (with_reducible first | exact HB.out | apply below_alloc | apply pw_below_drewN | apply below_drew1) | exact HB.out)⟩⟩
  case rest =>
    clear HC6
    try clear c1
    try clear p2
    try clear c6
    try clear c10
    try clear c12
    try clear c12b0
    try clear c12b1
    try clear c14
    try clear c15
    try clear c15b0
    try clear c15b1
    try clear c16
    try clear c16b0
    try clear c16b1
    try clear c16b2
    obtain ⟨kq, x45_5, rfl, HA, HJ5, HB⟩ := hcut
    cases kq with
    | zero => exact absurd HA.out (by simp [rotuletlaw02_CastBack.j0])
    | succ kj5 =>
      have H := HA.out
      clear HA
      simp only [rotuletlaw02_CastBack.j0] at H
      by_cases c17 : x45_5 = true
      · subst c17
        have H1 : (some false) = some r := by rw [if_pos rfl] at H; exact H
        exact absurd (Option.some.inj H1) (by rw [HRT.out]; decide)
      · replace c17 := Bool.eq_false_iff.mpr c17
        subst c17
        have H1 : ((rotuletlaw02_alive.f).bind fun t121 => (if t121 = true then ((cast_Fits.f t114 a1).bind fun t122 => (if t122 = true then ((cast_Fits.f t115 a1).bind fun t123 => (if t123 = true then ((cast_Wrap.f t114 a1).bind fun t124 => (if t124 = t114 then ((cast_Clamp.f t115 a1).bind fun t125 => (some (t125 == t115))) else (some false))) else (some false))) else (some false))) else (some false))) = some r := by rw [if_neg (show ¬ (false = true) by decide)] at H; exact H
        clear H
        have H := H1
        clear H1
        replace H := Option.bind_eq_some_iff.mp H
        obtain ⟨t121, A180, H⟩ := H
        replace H : (if t121 = true then ((cast_Fits.f t114 a1).bind fun t122 => (if t122 = true then ((cast_Fits.f t115 a1).bind fun t123 => (if t123 = true then ((cast_Wrap.f t114 a1).bind fun t124 => (if t124 = t114 then ((cast_Clamp.f t115 a1).bind fun t125 => (some (t125 == t115))) else (some false))) else (some false))) else (some false))) else (some false)) = some r := H
        have A18 := Aside0.mk A180
        clear A180
        by_cases c19 : t121 = true
        · subst c19
          have H1 : ((cast_Fits.f t114 a1).bind fun t122 => (if t122 = true then ((cast_Fits.f t115 a1).bind fun t123 => (if t123 = true then ((cast_Wrap.f t114 a1).bind fun t124 => (if t124 = t114 then ((cast_Clamp.f t115 a1).bind fun t125 => (some (t125 == t115))) else (some false))) else (some false))) else (some false))) = some r := by rw [if_pos rfl] at H; exact H
          clear H
          have H := H1
          clear H1
          replace H := Option.bind_eq_some_iff.mp H
          obtain ⟨t122, A200, H⟩ := H
          replace H : (if t122 = true then ((cast_Fits.f t115 a1).bind fun t123 => (if t123 = true then ((cast_Wrap.f t114 a1).bind fun t124 => (if t124 = t114 then ((cast_Clamp.f t115 a1).bind fun t125 => (some (t125 == t115))) else (some false))) else (some false))) else (some false)) = some r := H
          have A20 := Aside0.mk A200
          clear A200
          by_cases c21 : t122 = true
          · subst c21
            have H1 : ((cast_Fits.f t115 a1).bind fun t123 => (if t123 = true then ((cast_Wrap.f t114 a1).bind fun t124 => (if t124 = t114 then ((cast_Clamp.f t115 a1).bind fun t125 => (some (t125 == t115))) else (some false))) else (some false))) = some r := by rw [if_pos rfl] at H; exact H
            clear H
            have H := H1
            clear H1
            replace H := Option.bind_eq_some_iff.mp H
            obtain ⟨t123, A220, H⟩ := H
            replace H : (if t123 = true then ((cast_Wrap.f t114 a1).bind fun t124 => (if t124 = t114 then ((cast_Clamp.f t115 a1).bind fun t125 => (some (t125 == t115))) else (some false))) else (some false)) = some r := H
            have A22 := Aside0.mk A220
            clear A220
            by_cases c23 : t123 = true
            · subst c23
              have H1 : ((cast_Wrap.f t114 a1).bind fun t124 => (if t124 = t114 then ((cast_Clamp.f t115 a1).bind fun t125 => (some (t125 == t115))) else (some false))) = some r := by rw [if_pos rfl] at H; exact H
              clear H
              have H := H1
              clear H1
              replace H := Option.bind_eq_some_iff.mp H
              obtain ⟨t124, A240, H⟩ := H
              replace H : (if t124 = t114 then ((cast_Clamp.f t115 a1).bind fun t125 => (some (t125 == t115))) else (some false)) = some r := H
              have A24 := Aside0.mk A240
              clear A240
              by_cases c25 : t124 = t114
              · rw [if_pos c25] at H
                have c25b0 : (t124 == t114) = true := beq_iff_eq.mpr c25
                have c25b1 : (t124 != t114) = false := bne_eq_false_iff_eq.mpr c25
                clear c25
                replace H := Option.bind_eq_some_iff.mp H
                obtain ⟨t125, A260, H⟩ := H
                replace H : (some (t125 == t115)) = some r := H
                have A26 := Aside0.mk A260
                clear A260
                obtain rfl := Option.some.inj H
                go_wp2_with (first | ((with_reducible refine gate_callee (f := 12) rfl ?_); refine goesL_ (some 46) rfl rfl Try.func12 (by kernel_rfl) rfl #[] rfl (by (try simp only [List.map_toArray, List.map_cons, List.map_nil]); first | done | rfl | (simp only [List.length_drop, List.length_take]; rfl)) ?_; (with_reducible refine (rotuletlaw02_alive.calls  true _ A18.out).mono ?_); rintro e w27 ⟨rfl, hb⟩; refine ⟨_, rfl, ?_⟩; have n0_ := Aside0.mk (below_step (by repeat (first | (with_reducible first | exact HB.out | apply below_alloc | apply pw_below_drewN | apply below_drew1) | exact HB.out)) hb); clear HB; have HB := n0_; clear n0_; (try clear hb); (try clear hb2); (try clear hk); (try clear hi)) | (go_at_call 18; (with_reducible refine (cast_Fits.calls t114 a1 true _ A20.out).mono ?_); rintro e w28 ⟨rfl, hb⟩; have n0_ := Aside0.mk (below_step (by repeat (first | (with_reducible first | exact HB.out | apply below_alloc | apply pw_below_drewN | apply below_drew1) | exact HB.out)) hb); clear HB; have HB := n0_; clear n0_; (try clear hb); (try clear hb2); (try clear hk); (try clear hi)) | (go_at_call 18; (with_reducible refine (cast_Fits.calls t115 a1 true _ A22.out).mono ?_); rintro e w29 ⟨rfl, hb⟩; have n0_ := Aside0.mk (below_step (by repeat (first | (with_reducible first | exact HB.out | apply below_alloc | apply pw_below_drewN | apply below_drew1) | exact HB.out)) hb); clear HB; have HB := n0_; clear n0_; (try clear hb); (try clear hb2); (try clear hk); (try clear hi)) | (go_at_call 10; (with_reducible refine (cast_Wrap.calls t114 a1 t124 _ A24.out).mono ?_); rintro e w30 ⟨rfl, hb⟩; have n0_ := Aside0.mk (below_step (by repeat (first | (with_reducible first | exact HB.out | apply below_alloc | apply pw_below_drewN | apply below_drew1) | exact HB.out)) hb); clear HB; have HB := n0_; clear n0_; (try clear hb); (try clear hb2); (try clear hk); (try clear hi)) | (go_at_call 14; (with_reducible refine (cast_Clamp.calls t115 a1 t125 _ A26.out).mono ?_); rintro e w31 ⟨rfl, hb⟩; have n0_ := Aside0.mk (below_step (by repeat (first | (with_reducible first | exact HB.out | apply below_alloc | apply pw_below_drewN | apply below_drew1) | exact HB.out)) hb); clear HB; have HB := n0_; clear n0_; (try clear hb); (try clear hb2); (try clear hk); (try clear hi)))
                go_ret
                exact ⟨by first | rfl | (simp [errW_none, errW_some] <;> rfl) | (simp [*, errW_none, errW_some] <;> rfl), by repeat (first | (with_reducible first | exact HB.out | apply below_alloc | apply pw_below_drewN | apply below_drew1) | exact HB.out)⟩
              · rw [if_neg c25] at H
                exact absurd (Option.some.inj H) (by rw [HRT.out]; decide)
            · replace c23 := Bool.eq_false_iff.mpr c23
              subst c23
              have H1 : (some false) = some r := by rw [if_neg (show ¬ (false = true) by decide)] at H; exact H
              exact absurd (Option.some.inj H1) (by rw [HRT.out]; decide)
          · replace c21 := Bool.eq_false_iff.mpr c21
            subst c21
            have H1 : (some false) = some r := by rw [if_neg (show ¬ (false = true) by decide)] at H; exact H
            exact absurd (Option.some.inj H1) (by rw [HRT.out]; decide)
        · replace c19 := Bool.eq_false_iff.mpr c19
          subst c19
          have H1 : (some false) = some r := by rw [if_neg (show ¬ (false = true) by decide)] at H; exact H
          exact absurd (Option.some.inj H1) (by rw [HRT.out]; decide)
/-- THE ONE PURE STATEMENT of rotuletlaw02_CastBack: yours. -/
def rotuletlaw02_CastBack.Pure : Prop := ∀ (a0 : Int) (a1 : Int), (Lit.int .i64 a0).wf = true → (Lit.int .i64 a1).wf = true → ∃ k, rotuletlaw02_CastBack.f k a0 a1 = some true
theorem rotuletlaw02_CastBack.walk (P : rotuletlaw02_CastBack.Pure) (a0 : Int) (a1 : Int) (w : World) (w0 : (Lit.int .i64 a0).wf = true) (w1 : (Lit.int .i64 a1).wf = true) :
    Calls Try.prog 6 #[.int .i64 a0, .int .i64 a1] w fun e w' => e = .returned (.bool true) ∧ Below w.heap.size w w' := by
  obtain ⟨k, h⟩ := P a0 a1 w0 w1
  refine (rotuletlaw02_CastBack.calls k a0 a1 true rfl w h).mono ?_
  rintro e w' ⟨rfl, hd⟩
  exact ⟨rfl, hd⟩

end Go.Proofs.Ytjenbokdcbppoaa.Fn
