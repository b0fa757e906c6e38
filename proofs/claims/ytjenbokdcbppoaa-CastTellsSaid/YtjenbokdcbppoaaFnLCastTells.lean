/- The functions that the laws of this seat reach, as Lean functions, and for each the proof that the Go code comes to just these answers (lines written by the kit's print for these claims, joined by a program of ours; where a remark says so, by hand). Conditions: none. -/
import Derived.Test.YtjenbokdcbppoaaFn2
namespace Go.Proofs.Ytjenbokdcbppoaa.Fn
open Go.RowKit Go.Proofs.YtjenbokdcbppoaaW.PrintWords Go.Proofs.YtjenbokdcbppoaaW.PrintLast Go.Proofs.YtjenbokdcbppoaaW.PrintMore
attribute [local go_sem] max2_int min2_int max_two min_two max_three min_three max_four min_four   -- for this text's walks alone
set_option linter.unusedVariables false
set_option linter.unusedSimpArgs false
/-! ### rotuletlaw02_CastTells: function 9 -/
def rotuletlaw02_CastTells.j0 : Nat → Int → Int → Int → Int → Bool → Option (Bool)
  | 0, _, _, _, _, _ => none
  | k + 1, x0, x1, x2, x7, x92 => if x92 = true then (some false) else ((cast_Log.f k x7).bind fun bt148 => ((rotuletref02_Log.f k x7).bind fun bt150 => ((cast_Align.f x7 x2).bind fun bt152 => ((rotuletref02_Align.f k x7 x2).bind fun bt154 => ((rotuletlaw02_alive.f).bind fun t156 => (if t156 = true then (if bt148.1 = bt150.1 then (if (bt148.2 == bt150.2) = true then (if bt152.1 = bt154.1 then (if (bt152.2 == bt154.2) = true then ((cast_Zig.f x0).bind fun t157 => ((rotuletref02_Zig.f x0).bind fun t158 => (if t157 = t158 then ((cast_Zag.f x7).bind fun t159 => ((rotuletref02_Zag.f x7).bind fun t160 => (if t159 = t160 then ((cast_Half.f x0 x1).bind fun t161 => ((rotuletref02_Half.f x0 x1).bind fun t162 => (if t161 = t162 then ((cast_Between.f x0 x1 x2).bind fun t163 => ((rotuletref02_Between.f x0 x1 x2).bind fun t164 => (some (t163 == t164)))) else (some false)))) else (some false)))) else (some false)))) else (some false)) else (some false)) else (some false)) else (some false)) else (some false)))))))
def rotuletlaw02_CastTells.f (k : Nat) (a0 : Int) (a1 : Int) (a2 : Int) : Option (Bool) := (cast_Narrow.f (IntKind.u64.wrap (a0)) a2).bind fun bt134 => ((rotuletref02_Narrow.f k (IntKind.u64.wrap (a0)) a2).bind fun bt136 => ((cast_Signed.f (IntKind.u64.wrap (a0))).bind fun bt138 => ((rotuletref02_Signed.f (IntKind.u64.wrap (a0))).bind fun bt140 => (if bt134.1 = bt136.1 then (if (bt134.2 != bt136.2) = true then (rotuletlaw02_CastTells.j0 k a0 a1 a2 (IntKind.u64.wrap (a0)) true) else (if bt138.1 = bt140.1 then (if (bt138.2 != bt140.2) = true then (rotuletlaw02_CastTells.j0 k a0 a1 a2 (IntKind.u64.wrap (a0)) true) else ((cast_Fits.f a0 a2).bind fun t142 => ((rotuletref02_Fits.f k a0 a2).bind fun t143 => (if (t142 != t143) = true then (rotuletlaw02_CastTells.j0 k a0 a1 a2 (IntKind.u64.wrap (a0)) true) else ((cast_Wrap.f a0 a2).bind fun t144 => ((rotuletref02_Wrap.f k a0 a2).bind fun t145 => (if t144 = t145 then ((cast_Clamp.f a0 a2).bind fun t146 => ((rotuletref02_Clamp.f k a0 a2).bind fun t147 => (rotuletlaw02_CastTells.j0 k a0 a1 a2 (IntKind.u64.wrap (a0)) (t146 != t147)))) else (rotuletlaw02_CastTells.j0 k a0 a1 a2 (IntKind.u64.wrap (a0)) true)))))))) else (rotuletlaw02_CastTells.j0 k a0 a1 a2 (IntKind.u64.wrap (a0)) true))) else (rotuletlaw02_CastTells.j0 k a0 a1 a2 (IntKind.u64.wrap (a0)) true)))))
theorem rotuletlaw02_CastTells.mono_l : ∀ k, (∀ y0 y1 y2 y3 y4, LeO (rotuletlaw02_CastTells.j0 k y0 y1 y2 y3 y4) (rotuletlaw02_CastTells.j0 (k + 1) y0 y1 y2 y3 y4))
  | 0 => fun _ _ _ _ _ r h => by simp [rotuletlaw02_CastTells.j0] at h
  | k + 1 => by
    have ih0 := rotuletlaw02_CastTells.mono_l k
    · intro y0 y1 y2 y3 y4
      unfold rotuletlaw02_CastTells.j0
      repeat' first
      | (with_reducible exact ih0 _ _ _ _ _)
      | (with_reducible exact cast_Log.mono _ _)
      | (with_reducible exact rotuletref02_Align.mono _ _ _)
      | (with_reducible exact rotuletref02_Clamp.mono _ _ _)
      | (with_reducible exact rotuletref02_Fits.mono _ _ _)
      | (with_reducible exact rotuletref02_Log.mono _ _)
      | (with_reducible exact rotuletref02_Narrow.mono _ _ _)
      | (with_reducible exact rotuletref02_Wrap.mono _ _ _)
      | (with_reducible exact LeO.refl _)
      | (with_reducible exact LeO.none _)
      | (with_reducible refine LeO.ite ?_ ?_)
      | (with_reducible refine LeO.bind ?_ (fun _ => ?_))
      | exact ih0 _ _ _ _ _
      | exact cast_Log.mono _ _
      | exact rotuletref02_Align.mono _ _ _
      | exact rotuletref02_Clamp.mono _ _ _
      | exact rotuletref02_Fits.mono _ _ _
      | exact rotuletref02_Log.mono _ _
      | exact rotuletref02_Narrow.mono _ _ _
      | exact rotuletref02_Wrap.mono _ _ _
      | exact LeO.none _
      | refine LeO.ite ?_ ?_
      | refine LeO.bind ?_ (fun _ => ?_)
theorem rotuletlaw02_CastTells.mono : ∀ a0 a1 a2 k, LeO (rotuletlaw02_CastTells.f k a0 a1 a2) (rotuletlaw02_CastTells.f (k + 1) a0 a1 a2) := by
  intro a0 a1 a2 k
  have ih0 := rotuletlaw02_CastTells.mono_l k
  unfold rotuletlaw02_CastTells.f
  repeat' first
      | (with_reducible exact ih0 _ _ _ _ _)
      | (with_reducible exact cast_Log.mono _ _)
      | (with_reducible exact rotuletref02_Align.mono _ _ _)
      | (with_reducible exact rotuletref02_Clamp.mono _ _ _)
      | (with_reducible exact rotuletref02_Fits.mono _ _ _)
      | (with_reducible exact rotuletref02_Log.mono _ _)
      | (with_reducible exact rotuletref02_Narrow.mono _ _ _)
      | (with_reducible exact rotuletref02_Wrap.mono _ _ _)
      | (with_reducible exact LeO.refl _)
      | (with_reducible exact LeO.none _)
      | (with_reducible refine LeO.ite ?_ ?_)
      | (with_reducible refine LeO.bind ?_ (fun _ => ?_))
      | exact ih0 _ _ _ _ _
      | exact cast_Log.mono _ _
      | exact rotuletref02_Align.mono _ _ _
      | exact rotuletref02_Clamp.mono _ _ _
      | exact rotuletref02_Fits.mono _ _ _
      | exact rotuletref02_Log.mono _ _
      | exact rotuletref02_Narrow.mono _ _ _
      | exact rotuletref02_Wrap.mono _ _ _
      | exact LeO.none _
      | refine LeO.ite ?_ ?_
      | refine LeO.bind ?_ (fun _ => ?_)
set_option maxHeartbeats 8000000 in
set_option maxRecDepth 100000 in
theorem rotuletlaw02_CastTells.calls (k : Nat) (a0 : Int) (a1 : Int) (a2 : Int) (r : Bool) (hrt : r = true) (w : World) (h : rotuletlaw02_CastTells.f k a0 a1 a2 = some r) :
    Calls Try.prog 9 #[.int .i64 a0, .int .i64 a1, .int .i64 a2] w fun e w' => e = .returned (.bool r) ∧ Below w.heap.size w w' := by
  have HRT := Aside0.mk hrt
  clear hrt
  have HB := Aside0.mk (Below.refl w.heap.size w)
  have H : ((cast_Narrow.f (IntKind.u64.wrap (a0)) a2).bind fun bt134 => ((rotuletref02_Narrow.f k (IntKind.u64.wrap (a0)) a2).bind fun bt136 => ((cast_Signed.f (IntKind.u64.wrap (a0))).bind fun bt138 => ((rotuletref02_Signed.f (IntKind.u64.wrap (a0))).bind fun bt140 => (if bt134.1 = bt136.1 then (if (bt134.2 != bt136.2) = true then (rotuletlaw02_CastTells.j0 k a0 a1 a2 (IntKind.u64.wrap (a0)) true) else (if bt138.1 = bt140.1 then (if (bt138.2 != bt140.2) = true then (rotuletlaw02_CastTells.j0 k a0 a1 a2 (IntKind.u64.wrap (a0)) true) else ((cast_Fits.f a0 a2).bind fun t142 => ((rotuletref02_Fits.f k a0 a2).bind fun t143 => (if (t142 != t143) = true then (rotuletlaw02_CastTells.j0 k a0 a1 a2 (IntKind.u64.wrap (a0)) true) else ((cast_Wrap.f a0 a2).bind fun t144 => ((rotuletref02_Wrap.f k a0 a2).bind fun t145 => (if t144 = t145 then ((cast_Clamp.f a0 a2).bind fun t146 => ((rotuletref02_Clamp.f k a0 a2).bind fun t147 => (rotuletlaw02_CastTells.j0 k a0 a1 a2 (IntKind.u64.wrap (a0)) (t146 != t147)))) else (rotuletlaw02_CastTells.j0 k a0 a1 a2 (IntKind.u64.wrap (a0)) true)))))))) else (rotuletlaw02_CastTells.j0 k a0 a1 a2 (IntKind.u64.wrap (a0)) true))) else (rotuletlaw02_CastTells.j0 k a0 a1 a2 (IntKind.u64.wrap (a0)) true)))))) = some r := h
  clear h
  replace H := Option.bind_eq_some_iff.mp H
  obtain ⟨⟨t134, t135⟩, A40, H⟩ := H
  replace H : ((rotuletref02_Narrow.f k (IntKind.u64.wrap (a0)) a2).bind fun bt136 => ((cast_Signed.f (IntKind.u64.wrap (a0))).bind fun bt138 => ((rotuletref02_Signed.f (IntKind.u64.wrap (a0))).bind fun bt140 => (if t134 = bt136.1 then (if (t135 != bt136.2) = true then (rotuletlaw02_CastTells.j0 k a0 a1 a2 (IntKind.u64.wrap (a0)) true) else (if bt138.1 = bt140.1 then (if (bt138.2 != bt140.2) = true then (rotuletlaw02_CastTells.j0 k a0 a1 a2 (IntKind.u64.wrap (a0)) true) else ((cast_Fits.f a0 a2).bind fun t142 => ((rotuletref02_Fits.f k a0 a2).bind fun t143 => (if (t142 != t143) = true then (rotuletlaw02_CastTells.j0 k a0 a1 a2 (IntKind.u64.wrap (a0)) true) else ((cast_Wrap.f a0 a2).bind fun t144 => ((rotuletref02_Wrap.f k a0 a2).bind fun t145 => (if t144 = t145 then ((cast_Clamp.f a0 a2).bind fun t146 => ((rotuletref02_Clamp.f k a0 a2).bind fun t147 => (rotuletlaw02_CastTells.j0 k a0 a1 a2 (IntKind.u64.wrap (a0)) (t146 != t147)))) else (rotuletlaw02_CastTells.j0 k a0 a1 a2 (IntKind.u64.wrap (a0)) true)))))))) else (rotuletlaw02_CastTells.j0 k a0 a1 a2 (IntKind.u64.wrap (a0)) true))) else (rotuletlaw02_CastTells.j0 k a0 a1 a2 (IntKind.u64.wrap (a0)) true))))) = some r := H
  have A4 := Aside0.mk A40
  clear A40
  replace H := Option.bind_eq_some_iff.mp H
  obtain ⟨⟨t136, t137⟩, A50, H⟩ := H
  replace H : ((cast_Signed.f (IntKind.u64.wrap (a0))).bind fun bt138 => ((rotuletref02_Signed.f (IntKind.u64.wrap (a0))).bind fun bt140 => (if t134 = t136 then (if (t135 != t137) = true then (rotuletlaw02_CastTells.j0 k a0 a1 a2 (IntKind.u64.wrap (a0)) true) else (if bt138.1 = bt140.1 then (if (bt138.2 != bt140.2) = true then (rotuletlaw02_CastTells.j0 k a0 a1 a2 (IntKind.u64.wrap (a0)) true) else ((cast_Fits.f a0 a2).bind fun t142 => ((rotuletref02_Fits.f k a0 a2).bind fun t143 => (if (t142 != t143) = true then (rotuletlaw02_CastTells.j0 k a0 a1 a2 (IntKind.u64.wrap (a0)) true) else ((cast_Wrap.f a0 a2).bind fun t144 => ((rotuletref02_Wrap.f k a0 a2).bind fun t145 => (if t144 = t145 then ((cast_Clamp.f a0 a2).bind fun t146 => ((rotuletref02_Clamp.f k a0 a2).bind fun t147 => (rotuletlaw02_CastTells.j0 k a0 a1 a2 (IntKind.u64.wrap (a0)) (t146 != t147)))) else (rotuletlaw02_CastTells.j0 k a0 a1 a2 (IntKind.u64.wrap (a0)) true)))))))) else (rotuletlaw02_CastTells.j0 k a0 a1 a2 (IntKind.u64.wrap (a0)) true))) else (rotuletlaw02_CastTells.j0 k a0 a1 a2 (IntKind.u64.wrap (a0)) true)))) = some r := H
  have A5 := Aside0.mk A50
  clear A50
  replace H := Option.bind_eq_some_iff.mp H
  obtain ⟨⟨t138, t139⟩, A60, H⟩ := H
  replace H : ((rotuletref02_Signed.f (IntKind.u64.wrap (a0))).bind fun bt140 => (if t134 = t136 then (if (t135 != t137) = true then (rotuletlaw02_CastTells.j0 k a0 a1 a2 (IntKind.u64.wrap (a0)) true) else (if t138 = bt140.1 then (if (t139 != bt140.2) = true then (rotuletlaw02_CastTells.j0 k a0 a1 a2 (IntKind.u64.wrap (a0)) true) else ((cast_Fits.f a0 a2).bind fun t142 => ((rotuletref02_Fits.f k a0 a2).bind fun t143 => (if (t142 != t143) = true then (rotuletlaw02_CastTells.j0 k a0 a1 a2 (IntKind.u64.wrap (a0)) true) else ((cast_Wrap.f a0 a2).bind fun t144 => ((rotuletref02_Wrap.f k a0 a2).bind fun t145 => (if t144 = t145 then ((cast_Clamp.f a0 a2).bind fun t146 => ((rotuletref02_Clamp.f k a0 a2).bind fun t147 => (rotuletlaw02_CastTells.j0 k a0 a1 a2 (IntKind.u64.wrap (a0)) (t146 != t147)))) else (rotuletlaw02_CastTells.j0 k a0 a1 a2 (IntKind.u64.wrap (a0)) true)))))))) else (rotuletlaw02_CastTells.j0 k a0 a1 a2 (IntKind.u64.wrap (a0)) true))) else (rotuletlaw02_CastTells.j0 k a0 a1 a2 (IntKind.u64.wrap (a0)) true))) = some r := H
  have A6 := Aside0.mk A60
  clear A60
  replace H := Option.bind_eq_some_iff.mp H
  obtain ⟨⟨t140, t141⟩, A70, H⟩ := H
  replace H : (if t134 = t136 then (if (t135 != t137) = true then (rotuletlaw02_CastTells.j0 k a0 a1 a2 (IntKind.u64.wrap (a0)) true) else (if t138 = t140 then (if (t139 != t141) = true then (rotuletlaw02_CastTells.j0 k a0 a1 a2 (IntKind.u64.wrap (a0)) true) else ((cast_Fits.f a0 a2).bind fun t142 => ((rotuletref02_Fits.f k a0 a2).bind fun t143 => (if (t142 != t143) = true then (rotuletlaw02_CastTells.j0 k a0 a1 a2 (IntKind.u64.wrap (a0)) true) else ((cast_Wrap.f a0 a2).bind fun t144 => ((rotuletref02_Wrap.f k a0 a2).bind fun t145 => (if t144 = t145 then ((cast_Clamp.f a0 a2).bind fun t146 => ((rotuletref02_Clamp.f k a0 a2).bind fun t147 => (rotuletlaw02_CastTells.j0 k a0 a1 a2 (IntKind.u64.wrap (a0)) (t146 != t147)))) else (rotuletlaw02_CastTells.j0 k a0 a1 a2 (IntKind.u64.wrap (a0)) true)))))))) else (rotuletlaw02_CastTells.j0 k a0 a1 a2 (IntKind.u64.wrap (a0)) true))) else (rotuletlaw02_CastTells.j0 k a0 a1 a2 (IntKind.u64.wrap (a0)) true)) = some r := H
  have A7 := Aside0.mk A70
  clear A70
  have HC8 := Aside0.mk H
  clear H
  go_enter Try.func9, Try.ntmps9
  go_upto_region 6 with (first | ((with_reducible refine gate_callee (f := 11) rfl ?_); refine goesL_ (some 29) rfl rfl Try.func11 (by kernel_rfl) rfl #[.int .u64 (IntKind.u64.wrap (a0)), .int .i64 a2] rfl (by (try simp only [List.map_toArray, List.map_cons, List.map_nil]); first | done | rfl | (simp only [List.length_drop, List.length_take]; rfl)) ?_; (with_reducible refine (cast_Narrow.calls (IntKind.u64.wrap (a0)) a2 t134 t135 _ A4.out).mono ?_); rintro e w9 ⟨rfl, hb⟩; refine ⟨_, rfl, ?_⟩; have n0_ := Aside0.mk (below_step (by repeat (first | (with_reducible first | exact HB.out | apply below_alloc | apply pw_below_drewN | apply below_drew1) | exact HB.out)) hb); clear HB; have HB := n0_; clear n0_; (try clear hb); (try clear hb2); (try clear hk); (try clear hi)) | ((with_reducible refine gate_callee (f := 21) rfl ?_); refine goesL_ (some 35) rfl rfl Try.func21 (by kernel_rfl) rfl #[.int .u64 (IntKind.u64.wrap (a0)), .int .i64 a2] rfl (by (try simp only [List.map_toArray, List.map_cons, List.map_nil]); first | done | rfl | (simp only [List.length_drop, List.length_take]; rfl)) ?_; (with_reducible refine (rotuletref02_Narrow.calls k (IntKind.u64.wrap (a0)) a2 t136 t137 _ A5.out).mono ?_); rintro e w10 ⟨rfl, hb⟩; refine ⟨_, rfl, ?_⟩; have n0_ := Aside0.mk (below_step (by repeat (first | (with_reducible first | exact HB.out | apply below_alloc | apply pw_below_drewN | apply below_drew1) | exact HB.out)) hb); clear HB; have HB := n0_; clear n0_; (try clear hb); (try clear hb2); (try clear hk); (try clear hi)) | ((with_reducible refine gate_callee (f := 22) rfl ?_); refine goesL_ (some 40) rfl rfl Try.func22 (by kernel_rfl) rfl #[.int .u64 (IntKind.u64.wrap (a0))] rfl (by (try simp only [List.map_toArray, List.map_cons, List.map_nil]); first | done | rfl | (simp only [List.length_drop, List.length_take]; rfl)) ?_; (with_reducible refine (cast_Signed.calls (IntKind.u64.wrap (a0)) t138 t139 _ A6.out).mono ?_); rintro e w' ⟨rfl, ⟨nd, rfl⟩⟩; refine ⟨_, rfl, ?_⟩) | ((with_reducible refine gate_callee (f := 23) rfl ?_); refine goesL_ (some 45) rfl rfl Try.func23 (by kernel_rfl) rfl #[.int .u64 (IntKind.u64.wrap (a0))] rfl (by (try simp only [List.map_toArray, List.map_cons, List.map_nil]); first | done | rfl | (simp only [List.length_drop, List.length_take]; rfl)) ?_; (with_reducible refine (rotuletref02_Signed.calls (IntKind.u64.wrap (a0)) t140 t141 _ A7.out).mono ?_); rintro e w' ⟨rfl, ⟨nd, rfl⟩⟩; refine ⟨_, rfl, ?_⟩))
  (try simp only [Act.put, List.setIfInBounds_toArray, List.set_cons_zero, List.set_cons_succ])
  go_cut [92] (fun v92 wc => ∃ (kq : Nat) (x92_7 : Bool), v92 = .bool x92_7 ∧ Aside0 (rotuletlaw02_CastTells.j0 kq a0 a1 a2 (IntKind.u64.wrap (a0)) x92_7 = some r) ∧ Aside0 (kq ≤ k) ∧ Aside0 (Below w.heap.size w wc))
  case first =>
    have H := HC8.out
    clear HC8
    by_cases c11 : t134 = t136
    · rw [if_pos c11] at H
      have c11b0 : (t134 == t136) = true := beq_iff_eq.mpr c11
      have c11b1 : (t134 != t136) = false := bne_eq_false_iff_eq.mpr c11
      clear c11
      (first | rw [c11b0] | (simp only [i64_w, i32_w]; rw [c11b0]) | skip)
      by_cases c12 : (t135 != t137) = true
      · rw [if_pos c12] at H
        have c12b0 : (t135 != t137) = true := c12
        (try (have c12b1 : decide (t135 = t137) = false := by simpa using c12))
        (try (have c12b2 : (t135 == t137) = false := by simpa using c12))
        (try (have c12b3 : ¬ (t135 = t137) := by simpa using c12))
        clear c12
        have H' := Aside0.mk H
        clear H
        go_wp2
        go_meet
        case rel => exact ⟨_, (true), (by first | rfl | (simp; done) | (simp [*]; done)), H', ⟨by first | omega | exact Nat.le_refl _⟩, ⟨by repeat (first | (with_reducible first | exact HB.out | apply below_alloc | apply pw_below_drewN | apply below_drew1) | exact HB.out)⟩⟩
      · rw [if_neg c12] at H
        have c12b0 : (t135 != t137) = false := by simpa using c12
        (try (have c12b1 : decide (t135 = t137) = true := by simpa using c12))
        (try (have c12b2 : (t135 == t137) = true := by simpa using c12))
        clear c12
        by_cases c13 : t138 = t140
        · rw [if_pos c13] at H
          have c13b0 : (t138 == t140) = true := beq_iff_eq.mpr c13
          have c13b1 : (t138 != t140) = false := bne_eq_false_iff_eq.mpr c13
          clear c13
          by_cases c14 : (t139 != t141) = true
          · rw [if_pos c14] at H
            have c14b0 : (t139 != t141) = true := c14
            (try (have c14b1 : decide (t139 = t141) = false := by simpa using c14))
            (try (have c14b2 : (t139 == t141) = false := by simpa using c14))
            (try (have c14b3 : ¬ (t139 = t141) := by simpa using c14))
            clear c14
            have H' := Aside0.mk H
            clear H
            go_wp2
            go_meet
            case rel => exact ⟨_, (true), (by first | rfl | (simp; done) | (simp [*]; done)), H', ⟨by first | omega | exact Nat.le_refl _⟩, ⟨by repeat (first | (with_reducible first | exact HB.out | apply below_alloc | apply pw_below_drewN | apply below_drew1) | exact HB.out)⟩⟩
          · rw [if_neg c14] at H
            have c14b0 : (t139 != t141) = false := by simpa using c14
            (try (have c14b1 : decide (t139 = t141) = true := by simpa using c14))
            (try (have c14b2 : (t139 == t141) = true := by simpa using c14))
            clear c14
            replace H := Option.bind_eq_some_iff.mp H
            obtain ⟨t142, A150, H⟩ := H
            replace H : ((rotuletref02_Fits.f k a0 a2).bind fun t143 => (if (t142 != t143) = true then (rotuletlaw02_CastTells.j0 k a0 a1 a2 (IntKind.u64.wrap (a0)) true) else ((cast_Wrap.f a0 a2).bind fun t144 => ((rotuletref02_Wrap.f k a0 a2).bind fun t145 => (if t144 = t145 then ((cast_Clamp.f a0 a2).bind fun t146 => ((rotuletref02_Clamp.f k a0 a2).bind fun t147 => (rotuletlaw02_CastTells.j0 k a0 a1 a2 (IntKind.u64.wrap (a0)) (t146 != t147)))) else (rotuletlaw02_CastTells.j0 k a0 a1 a2 (IntKind.u64.wrap (a0)) true)))))) = some r := H
            have A15 := Aside0.mk A150
            clear A150
            replace H := Option.bind_eq_some_iff.mp H
            obtain ⟨t143, A160, H⟩ := H
            replace H : (if (t142 != t143) = true then (rotuletlaw02_CastTells.j0 k a0 a1 a2 (IntKind.u64.wrap (a0)) true) else ((cast_Wrap.f a0 a2).bind fun t144 => ((rotuletref02_Wrap.f k a0 a2).bind fun t145 => (if t144 = t145 then ((cast_Clamp.f a0 a2).bind fun t146 => ((rotuletref02_Clamp.f k a0 a2).bind fun t147 => (rotuletlaw02_CastTells.j0 k a0 a1 a2 (IntKind.u64.wrap (a0)) (t146 != t147)))) else (rotuletlaw02_CastTells.j0 k a0 a1 a2 (IntKind.u64.wrap (a0)) true))))) = some r := H
            have A16 := Aside0.mk A160
            clear A160
            by_cases c17 : (t142 != t143) = true
            · rw [if_pos c17] at H
              have c17b0 : (t142 != t143) = true := c17
              (try (have c17b1 : decide (t142 = t143) = false := by simpa using c17))
              (try (have c17b2 : (t142 == t143) = false := by simpa using c17))
              (try (have c17b3 : ¬ (t142 = t143) := by simpa using c17))
              clear c17
              have H' := Aside0.mk H
              clear H
              go_wp2_with (first | (go_at_call 18; (with_reducible refine (cast_Fits.calls a0 a2 t142 _ A15.out).mono ?_); rintro e w18 ⟨rfl, hb⟩; have n0_ := Aside0.mk (below_step (by repeat (first | (with_reducible first | exact HB.out | apply below_alloc | apply pw_below_drewN | apply below_drew1) | exact HB.out)) hb); clear HB; have HB := n0_; clear n0_; (try clear hb); (try clear hb2); (try clear hk); (try clear hi)) | (go_at_call 24; (with_reducible refine (rotuletref02_Fits.calls k a0 a2 t143 _ A16.out).mono ?_); rintro e w19 ⟨rfl, hb⟩; have n0_ := Aside0.mk (below_step (by repeat (first | (with_reducible first | exact HB.out | apply below_alloc | apply pw_below_drewN | apply below_drew1) | exact HB.out)) hb); clear HB; have HB := n0_; clear n0_; (try clear hb); (try clear hb2); (try clear hk); (try clear hi)))
              go_meet
              case rel => exact ⟨_, (true), (by first | rfl | (simp; done) | (simp [*]; done)), H', ⟨by first | omega | exact Nat.le_refl _⟩, ⟨by repeat (first | (with_reducible first | exact HB.out | apply below_alloc | apply pw_below_drewN | apply below_drew1) | exact HB.out)⟩⟩
            · rw [if_neg c17] at H
              have c17b0 : (t142 != t143) = false := by simpa using c17
              (try (have c17b1 : decide (t142 = t143) = true := by simpa using c17))
              (try (have c17b2 : (t142 == t143) = true := by simpa using c17))
              clear c17
              replace H := Option.bind_eq_some_iff.mp H
              obtain ⟨t144, A200, H⟩ := H
              replace H : ((rotuletref02_Wrap.f k a0 a2).bind fun t145 => (if t144 = t145 then ((cast_Clamp.f a0 a2).bind fun t146 => ((rotuletref02_Clamp.f k a0 a2).bind fun t147 => (rotuletlaw02_CastTells.j0 k a0 a1 a2 (IntKind.u64.wrap (a0)) (t146 != t147)))) else (rotuletlaw02_CastTells.j0 k a0 a1 a2 (IntKind.u64.wrap (a0)) true))) = some r := H
              have A20 := Aside0.mk A200
              clear A200
              replace H := Option.bind_eq_some_iff.mp H
              obtain ⟨t145, A210, H⟩ := H
              replace H : (if t144 = t145 then ((cast_Clamp.f a0 a2).bind fun t146 => ((rotuletref02_Clamp.f k a0 a2).bind fun t147 => (rotuletlaw02_CastTells.j0 k a0 a1 a2 (IntKind.u64.wrap (a0)) (t146 != t147)))) else (rotuletlaw02_CastTells.j0 k a0 a1 a2 (IntKind.u64.wrap (a0)) true)) = some r := H
              have A21 := Aside0.mk A210
              clear A210
              by_cases c22 : t144 = t145
              · rw [if_pos c22] at H
                have c22b0 : (t144 == t145) = true := beq_iff_eq.mpr c22
                have c22b1 : (t144 != t145) = false := bne_eq_false_iff_eq.mpr c22
                clear c22
                replace H := Option.bind_eq_some_iff.mp H
                obtain ⟨t146, A230, H⟩ := H
                replace H : ((rotuletref02_Clamp.f k a0 a2).bind fun t147 => (rotuletlaw02_CastTells.j0 k a0 a1 a2 (IntKind.u64.wrap (a0)) (t146 != t147))) = some r := H
                have A23 := Aside0.mk A230
                clear A230
                replace H := Option.bind_eq_some_iff.mp H
                obtain ⟨t147, A240, H⟩ := H
                replace H : (rotuletlaw02_CastTells.j0 k a0 a1 a2 (IntKind.u64.wrap (a0)) (t146 != t147)) = some r := H
                have A24 := Aside0.mk A240
                clear A240
                have H' := Aside0.mk H
                clear H
                go_wp2_with (first | (go_at_call 18; (with_reducible refine (cast_Fits.calls a0 a2 t142 _ A15.out).mono ?_); rintro e w25 ⟨rfl, hb⟩; have n0_ := Aside0.mk (below_step (by repeat (first | (with_reducible first | exact HB.out | apply below_alloc | apply pw_below_drewN | apply below_drew1) | exact HB.out)) hb); clear HB; have HB := n0_; clear n0_; (try clear hb); (try clear hb2); (try clear hk); (try clear hi)) | (go_at_call 24; (with_reducible refine (rotuletref02_Fits.calls k a0 a2 t143 _ A16.out).mono ?_); rintro e w26 ⟨rfl, hb⟩; have n0_ := Aside0.mk (below_step (by repeat (first | (with_reducible first | exact HB.out | apply below_alloc | apply pw_below_drewN | apply below_drew1) | exact HB.out)) hb); clear HB; have HB := n0_; clear n0_; (try clear hb); (try clear hb2); (try clear hk); (try clear hi)) | (go_at_call 10; (with_reducible refine (cast_Wrap.calls a0 a2 t144 _ A20.out).mono ?_); rintro e w27 ⟨rfl, hb⟩; have n0_ := Aside0.mk (below_step (by repeat (first | (with_reducible first | exact HB.out | apply below_alloc | apply pw_below_drewN | apply below_drew1) | exact HB.out)) hb); clear HB; have HB := n0_; clear n0_; (try clear hb); (try clear hb2); (try clear hk); (try clear hi)) | (go_at_call 25; (with_reducible refine (rotuletref02_Wrap.calls k a0 a2 t145 _ A21.out).mono ?_); rintro e w28 ⟨rfl, hb⟩; have n0_ := Aside0.mk (below_step (by repeat (first | (with_reducible first | exact HB.out | apply below_alloc | apply pw_below_drewN | apply below_drew1) | exact HB.out)) hb); clear HB; have HB := n0_; clear n0_; (try clear hb); (try clear hb2); (try clear hk); (try clear hi)) | (go_at_call 14; (with_reducible refine (cast_Clamp.calls a0 a2 t146 _ A23.out).mono ?_); rintro e w29 ⟨rfl, hb⟩; have n0_ := Aside0.mk (below_step (by repeat (first | (with_reducible first | exact HB.out | apply below_alloc | apply pw_below_drewN | apply below_drew1) | exact HB.out)) hb); clear HB; have HB := n0_; clear n0_; (try clear hb); (try clear hb2); (try clear hk); (try clear hi)) | (go_at_call 26; (with_reducible refine (rotuletref02_Clamp.calls k a0 a2 t147 _ A24.out).mono ?_); rintro e w30 ⟨rfl, hb⟩; have n0_ := Aside0.mk (below_step (by repeat (first | (with_reducible first | exact HB.out | apply below_alloc | apply pw_below_drewN | apply below_drew1) | exact HB.out)) hb); clear HB; have HB := n0_; clear n0_; (try clear hb); (try clear hb2); (try clear hk); (try clear hi)))
                go_meet
                case rel => exact ⟨_, ((t146 != t147)), (by first | rfl | (simp; done) | (simp [*]; done)), H', ⟨by first | omega | exact Nat.le_refl _⟩, ⟨by repeat (first | (with_reducible first | exact HB.out | apply below_alloc | apply pw_below_drewN | apply below_drew1) | exact HB.out)⟩⟩
              · rw [if_neg c22] at H
                have c22b0 : (t144 == t145) = false := beq_eq_false_iff_ne.mpr c22
                have c22b1 : (t144 != t145) = true := bne_iff_ne.mpr c22
                have H' := Aside0.mk H
                clear H
                go_wp2_with (first | (go_at_call 18; (with_reducible refine (cast_Fits.calls a0 a2 t142 _ A15.out).mono ?_); rintro e w31 ⟨rfl, hb⟩; have n0_ := Aside0.mk (below_step (by repeat (first | (with_reducible first | exact HB.out | apply below_alloc | apply pw_below_drewN | apply below_drew1) | exact HB.out)) hb); clear HB; have HB := n0_; clear n0_; (try clear hb); (try clear hb2); (try clear hk); (try clear hi)) | (go_at_call 24; (with_reducible refine (rotuletref02_Fits.calls k a0 a2 t143 _ A16.out).mono ?_); rintro e w32 ⟨rfl, hb⟩; have n0_ := Aside0.mk (below_step (by repeat (first | (with_reducible first | exact HB.out | apply below_alloc | apply pw_below_drewN | apply below_drew1) | exact HB.out)) hb); clear HB; have HB := n0_; clear n0_; (try clear hb); (try clear hb2); (try clear hk); (try clear hi)) | (go_at_call 10; (with_reducible refine (cast_Wrap.calls a0 a2 t144 _ A20.out).mono ?_); rintro e w33 ⟨rfl, hb⟩; have n0_ := Aside0.mk (below_step (by repeat (first | (with_reducible first | exact HB.out | apply below_alloc | apply pw_below_drewN | apply below_drew1) | exact HB.out)) hb); clear HB; have HB := n0_; clear n0_; (try clear hb); (try clear hb2); (try clear hk); (try clear hi)) | (go_at_call 25; (with_reducible refine (rotuletref02_Wrap.calls k a0 a2 t145 _ A21.out).mono ?_); rintro e w34 ⟨rfl, hb⟩; have n0_ := Aside0.mk (below_step (by repeat (first | (with_reducible first | exact HB.out | apply below_alloc | apply pw_below_drewN | apply below_drew1) | exact HB.out)) hb); clear HB; have HB := n0_; clear n0_; (try clear hb); (try clear hb2); (try clear hk); (try clear hi)))
                go_meet
                case rel => exact ⟨_, (true), (by first | rfl | (simp; done) | (simp [*]; done)), H', ⟨by first | omega | exact Nat.le_refl _⟩, ⟨by repeat (first | (with_reducible first | exact HB.out | apply below_alloc | apply pw_below_drewN | apply below_drew1) | exact HB.out)⟩⟩
        · rw [if_neg c13] at H
          have c13b0 : (t138 == t140) = false := beq_eq_false_iff_ne.mpr c13
          have c13b1 : (t138 != t140) = true := bne_iff_ne.mpr c13
          have H' := Aside0.mk H
          clear H
          go_wp2
          go_meet
          case rel => exact ⟨_, (true), (by first | rfl | (simp; done) | (simp [*]; done)), H', ⟨by first | omega | exact Nat.le_refl _⟩, ⟨by repeat (first | (with_reducible first | exact HB.out | apply below_alloc | apply pw_below_drewN | apply below_drew1) | exact HB.out)⟩⟩
    · rw [if_neg c11] at H
      have c11b0 : (t134 == t136) = false := beq_eq_false_iff_ne.mpr c11
      have c11b1 : (t134 != t136) = true := bne_iff_ne.mpr c11
      (first | rw [c11b0] | (simp only [i64_w, i32_w]; rw [c11b0]) | skip)
      have H' := Aside0.mk H
      clear H
      go_wp2
      go_meet
      case rel => exact ⟨_, (true), (by first | rfl | (simp; done) | (simp [*]; done)), H', ⟨by first | omega | exact Nat.le_refl _⟩, ⟨by repeat (first | (with_reducible first | exact HB.out | apply below_alloc | apply pw_below_drewN | apply below_drew1) | exact HB.out)⟩⟩
  case rest =>
    clear HC8
    try clear c1
    try clear c2
    try clear p2
    try clear c9
    try clear c11
    try clear c11b0
    try clear c11b1
    try clear c12
    try clear c12b0
    try clear c12b1
    try clear c12b2
    try clear c13
    try clear c13b0
    try clear c13b1
    try clear c14
    try clear c14b0
    try clear c14b1
    try clear c14b2
    try clear c17
    try clear c17b0
    try clear c17b1
    try clear c17b2
    try clear c21
    try clear c22
    try clear c22b0
    try clear c22b1
    try clear c23
    obtain ⟨kq, x92_7, rfl, HA, HJ7, HB⟩ := hcut
    cases kq with
    | zero => exact absurd HA.out (by simp [rotuletlaw02_CastTells.j0])
    | succ kj7 =>
      have H := HA.out
      clear HA
      simp only [rotuletlaw02_CastTells.j0] at H
      by_cases c35 : x92_7 = true
      · subst c35
        have H1 : (some false) = some r := by rw [if_pos rfl] at H; exact H
        exact absurd (Option.some.inj H1) (by rw [HRT.out]; decide)
      · replace c35 := Bool.eq_false_iff.mpr c35
        subst c35
        have H1 : ((cast_Log.f kj7 (IntKind.u64.wrap (a0))).bind fun bt148 => ((rotuletref02_Log.f kj7 (IntKind.u64.wrap (a0))).bind fun bt150 => ((cast_Align.f (IntKind.u64.wrap (a0)) a2).bind fun bt152 => ((rotuletref02_Align.f kj7 (IntKind.u64.wrap (a0)) a2).bind fun bt154 => ((rotuletlaw02_alive.f).bind fun t156 => (if t156 = true then (if bt148.1 = bt150.1 then (if (bt148.2 == bt150.2) = true then (if bt152.1 = bt154.1 then (if (bt152.2 == bt154.2) = true then ((cast_Zig.f a0).bind fun t157 => ((rotuletref02_Zig.f a0).bind fun t158 => (if t157 = t158 then ((cast_Zag.f (IntKind.u64.wrap (a0))).bind fun t159 => ((rotuletref02_Zag.f (IntKind.u64.wrap (a0))).bind fun t160 => (if t159 = t160 then ((cast_Half.f a0 a1).bind fun t161 => ((rotuletref02_Half.f a0 a1).bind fun t162 => (if t161 = t162 then ((cast_Between.f a0 a1 a2).bind fun t163 => ((rotuletref02_Between.f a0 a1 a2).bind fun t164 => (some (t163 == t164)))) else (some false)))) else (some false)))) else (some false)))) else (some false)) else (some false)) else (some false)) else (some false)) else (some false))))))) = some r := by rw [if_neg (show ¬ (false = true) by decide)] at H; exact H
        clear H
        have H := H1
        clear H1
        replace H := Option.bind_eq_some_iff.mp H
        obtain ⟨⟨t148, t149⟩, A360, H⟩ := H
        replace H : ((rotuletref02_Log.f kj7 (IntKind.u64.wrap (a0))).bind fun bt150 => ((cast_Align.f (IntKind.u64.wrap (a0)) a2).bind fun bt152 => ((rotuletref02_Align.f kj7 (IntKind.u64.wrap (a0)) a2).bind fun bt154 => ((rotuletlaw02_alive.f).bind fun t156 => (if t156 = true then (if t148 = bt150.1 then (if (t149 == bt150.2) = true then (if bt152.1 = bt154.1 then (if (bt152.2 == bt154.2) = true then ((cast_Zig.f a0).bind fun t157 => ((rotuletref02_Zig.f a0).bind fun t158 => (if t157 = t158 then ((cast_Zag.f (IntKind.u64.wrap (a0))).bind fun t159 => ((rotuletref02_Zag.f (IntKind.u64.wrap (a0))).bind fun t160 => (if t159 = t160 then ((cast_Half.f a0 a1).bind fun t161 => ((rotuletref02_Half.f a0 a1).bind fun t162 => (if t161 = t162 then ((cast_Between.f a0 a1 a2).bind fun t163 => ((rotuletref02_Between.f a0 a1 a2).bind fun t164 => (some (t163 == t164)))) else (some false)))) else (some false)))) else (some false)))) else (some false)) else (some false)) else (some false)) else (some false)) else (some false)))))) = some r := H
        have A36 := Aside0.mk A360
        clear A360
        replace H := Option.bind_eq_some_iff.mp H
        obtain ⟨⟨t150, t151⟩, A370, H⟩ := H
        replace H : ((cast_Align.f (IntKind.u64.wrap (a0)) a2).bind fun bt152 => ((rotuletref02_Align.f kj7 (IntKind.u64.wrap (a0)) a2).bind fun bt154 => ((rotuletlaw02_alive.f).bind fun t156 => (if t156 = true then (if t148 = t150 then (if (t149 == t151) = true then (if bt152.1 = bt154.1 then (if (bt152.2 == bt154.2) = true then ((cast_Zig.f a0).bind fun t157 => ((rotuletref02_Zig.f a0).bind fun t158 => (if t157 = t158 then ((cast_Zag.f (IntKind.u64.wrap (a0))).bind fun t159 => ((rotuletref02_Zag.f (IntKind.u64.wrap (a0))).bind fun t160 => (if t159 = t160 then ((cast_Half.f a0 a1).bind fun t161 => ((rotuletref02_Half.f a0 a1).bind fun t162 => (if t161 = t162 then ((cast_Between.f a0 a1 a2).bind fun t163 => ((rotuletref02_Between.f a0 a1 a2).bind fun t164 => (some (t163 == t164)))) else (some false)))) else (some false)))) else (some false)))) else (some false)) else (some false)) else (some false)) else (some false)) else (some false))))) = some r := H
        have A37 := Aside0.mk A370
        clear A370
        replace H := Option.bind_eq_some_iff.mp H
        obtain ⟨⟨t152, t153⟩, A380, H⟩ := H
        replace H : ((rotuletref02_Align.f kj7 (IntKind.u64.wrap (a0)) a2).bind fun bt154 => ((rotuletlaw02_alive.f).bind fun t156 => (if t156 = true then (if t148 = t150 then (if (t149 == t151) = true then (if t152 = bt154.1 then (if (t153 == bt154.2) = true then ((cast_Zig.f a0).bind fun t157 => ((rotuletref02_Zig.f a0).bind fun t158 => (if t157 = t158 then ((cast_Zag.f (IntKind.u64.wrap (a0))).bind fun t159 => ((rotuletref02_Zag.f (IntKind.u64.wrap (a0))).bind fun t160 => (if t159 = t160 then ((cast_Half.f a0 a1).bind fun t161 => ((rotuletref02_Half.f a0 a1).bind fun t162 => (if t161 = t162 then ((cast_Between.f a0 a1 a2).bind fun t163 => ((rotuletref02_Between.f a0 a1 a2).bind fun t164 => (some (t163 == t164)))) else (some false)))) else (some false)))) else (some false)))) else (some false)) else (some false)) else (some false)) else (some false)) else (some false)))) = some r := H
        have A38 := Aside0.mk A380
        clear A380
        replace H := Option.bind_eq_some_iff.mp H
        obtain ⟨⟨t154, t155⟩, A390, H⟩ := H
        replace H : ((rotuletlaw02_alive.f).bind fun t156 => (if t156 = true then (if t148 = t150 then (if (t149 == t151) = true then (if t152 = t154 then (if (t153 == t155) = true then ((cast_Zig.f a0).bind fun t157 => ((rotuletref02_Zig.f a0).bind fun t158 => (if t157 = t158 then ((cast_Zag.f (IntKind.u64.wrap (a0))).bind fun t159 => ((rotuletref02_Zag.f (IntKind.u64.wrap (a0))).bind fun t160 => (if t159 = t160 then ((cast_Half.f a0 a1).bind fun t161 => ((rotuletref02_Half.f a0 a1).bind fun t162 => (if t161 = t162 then ((cast_Between.f a0 a1 a2).bind fun t163 => ((rotuletref02_Between.f a0 a1 a2).bind fun t164 => (some (t163 == t164)))) else (some false)))) else (some false)))) else (some false)))) else (some false)) else (some false)) else (some false)) else (some false)) else (some false))) = some r := H
        have A39 := Aside0.mk A390
        clear A390
        replace H := Option.bind_eq_some_iff.mp H
        obtain ⟨t156, A400, H⟩ := H
        replace H : (if t156 = true then (if t148 = t150 then (if (t149 == t151) = true then (if t152 = t154 then (if (t153 == t155) = true then ((cast_Zig.f a0).bind fun t157 => ((rotuletref02_Zig.f a0).bind fun t158 => (if t157 = t158 then ((cast_Zag.f (IntKind.u64.wrap (a0))).bind fun t159 => ((rotuletref02_Zag.f (IntKind.u64.wrap (a0))).bind fun t160 => (if t159 = t160 then ((cast_Half.f a0 a1).bind fun t161 => ((rotuletref02_Half.f a0 a1).bind fun t162 => (if t161 = t162 then ((cast_Between.f a0 a1 a2).bind fun t163 => ((rotuletref02_Between.f a0 a1 a2).bind fun t164 => (some (t163 == t164)))) else (some false)))) else (some false)))) else (some false)))) else (some false)) else (some false)) else (some false)) else (some false)) else (some false)) = some r := H
        have A40 := Aside0.mk A400
        clear A400
        by_cases c41 : t156 = true
        · subst c41
          have H1 : (if t148 = t150 then (if (t149 == t151) = true then (if t152 = t154 then (if (t153 == t155) = true then ((cast_Zig.f a0).bind fun t157 => ((rotuletref02_Zig.f a0).bind fun t158 => (if t157 = t158 then ((cast_Zag.f (IntKind.u64.wrap (a0))).bind fun t159 => ((rotuletref02_Zag.f (IntKind.u64.wrap (a0))).bind fun t160 => (if t159 = t160 then ((cast_Half.f a0 a1).bind fun t161 => ((rotuletref02_Half.f a0 a1).bind fun t162 => (if t161 = t162 then ((cast_Between.f a0 a1 a2).bind fun t163 => ((rotuletref02_Between.f a0 a1 a2).bind fun t164 => (some (t163 == t164)))) else (some false)))) else (some false)))) else (some false)))) else (some false)) else (some false)) else (some false)) else (some false)) = some r := by rw [if_pos rfl] at H; exact H
          clear H
          have H := H1
          clear H1
          by_cases c42 : t148 = t150
          · rw [if_pos c42] at H
            have c42b0 : (t148 == t150) = true := beq_iff_eq.mpr c42
            have c42b1 : (t148 != t150) = false := bne_eq_false_iff_eq.mpr c42
            clear c42
            by_cases c43 : (t149 == t151) = true
            · rw [if_pos c43] at H
              have c43b0 : (t149 == t151) = true := c43
              (try (have c43b1 : decide (t149 = t151) = true := by simpa using c43))
              (try (have c43b2 : (t149 == t151) = true := by simpa using c43))
              clear c43
              by_cases c44 : t152 = t154
              · rw [if_pos c44] at H
                have c44b0 : (t152 == t154) = true := beq_iff_eq.mpr c44
                have c44b1 : (t152 != t154) = false := bne_eq_false_iff_eq.mpr c44
                clear c44
                by_cases c45 : (t153 == t155) = true
                · rw [if_pos c45] at H
                  have c45b0 : (t153 == t155) = true := c45
                  (try (have c45b1 : decide (t153 = t155) = true := by simpa using c45))
                  (try (have c45b2 : (t153 == t155) = true := by simpa using c45))
                  clear c45
                  replace H := Option.bind_eq_some_iff.mp H
                  obtain ⟨t157, A460, H⟩ := H
                  replace H : ((rotuletref02_Zig.f a0).bind fun t158 => (if t157 = t158 then ((cast_Zag.f (IntKind.u64.wrap (a0))).bind fun t159 => ((rotuletref02_Zag.f (IntKind.u64.wrap (a0))).bind fun t160 => (if t159 = t160 then ((cast_Half.f a0 a1).bind fun t161 => ((rotuletref02_Half.f a0 a1).bind fun t162 => (if t161 = t162 then ((cast_Between.f a0 a1 a2).bind fun t163 => ((rotuletref02_Between.f a0 a1 a2).bind fun t164 => (some (t163 == t164)))) else (some false)))) else (some false)))) else (some false))) = some r := H
                  have A46 := Aside0.mk A460
                  clear A460
                  replace H := Option.bind_eq_some_iff.mp H
                  obtain ⟨t158, A470, H⟩ := H
                  replace H : (if t157 = t158 then ((cast_Zag.f (IntKind.u64.wrap (a0))).bind fun t159 => ((rotuletref02_Zag.f (IntKind.u64.wrap (a0))).bind fun t160 => (if t159 = t160 then ((cast_Half.f a0 a1).bind fun t161 => ((rotuletref02_Half.f a0 a1).bind fun t162 => (if t161 = t162 then ((cast_Between.f a0 a1 a2).bind fun t163 => ((rotuletref02_Between.f a0 a1 a2).bind fun t164 => (some (t163 == t164)))) else (some false)))) else (some false)))) else (some false)) = some r := H
                  have A47 := Aside0.mk A470
                  clear A470
                  by_cases c48 : t157 = t158
                  · rw [if_pos c48] at H
                    have c48b0 : (t157 == t158) = true := beq_iff_eq.mpr c48
                    have c48b1 : (t157 != t158) = false := bne_eq_false_iff_eq.mpr c48
                    clear c48
                    replace H := Option.bind_eq_some_iff.mp H
                    obtain ⟨t159, A490, H⟩ := H
                    replace H : ((rotuletref02_Zag.f (IntKind.u64.wrap (a0))).bind fun t160 => (if t159 = t160 then ((cast_Half.f a0 a1).bind fun t161 => ((rotuletref02_Half.f a0 a1).bind fun t162 => (if t161 = t162 then ((cast_Between.f a0 a1 a2).bind fun t163 => ((rotuletref02_Between.f a0 a1 a2).bind fun t164 => (some (t163 == t164)))) else (some false)))) else (some false))) = some r := H
                    have A49 := Aside0.mk A490
                    clear A490
                    replace H := Option.bind_eq_some_iff.mp H
                    obtain ⟨t160, A500, H⟩ := H
                    replace H : (if t159 = t160 then ((cast_Half.f a0 a1).bind fun t161 => ((rotuletref02_Half.f a0 a1).bind fun t162 => (if t161 = t162 then ((cast_Between.f a0 a1 a2).bind fun t163 => ((rotuletref02_Between.f a0 a1 a2).bind fun t164 => (some (t163 == t164)))) else (some false)))) else (some false)) = some r := H
                    have A50 := Aside0.mk A500
                    clear A500
                    by_cases c51 : t159 = t160
                    · rw [if_pos c51] at H
                      have c51b0 : (t159 == t160) = true := beq_iff_eq.mpr c51
                      have c51b1 : (t159 != t160) = false := bne_eq_false_iff_eq.mpr c51
                      clear c51
                      replace H := Option.bind_eq_some_iff.mp H
                      obtain ⟨t161, A520, H⟩ := H
                      replace H : ((rotuletref02_Half.f a0 a1).bind fun t162 => (if t161 = t162 then ((cast_Between.f a0 a1 a2).bind fun t163 => ((rotuletref02_Between.f a0 a1 a2).bind fun t164 => (some (t163 == t164)))) else (some false))) = some r := H
                      have A52 := Aside0.mk A520
                      clear A520
                      replace H := Option.bind_eq_some_iff.mp H
                      obtain ⟨t162, A530, H⟩ := H
                      replace H : (if t161 = t162 then ((cast_Between.f a0 a1 a2).bind fun t163 => ((rotuletref02_Between.f a0 a1 a2).bind fun t164 => (some (t163 == t164)))) else (some false)) = some r := H
                      have A53 := Aside0.mk A530
                      clear A530
                      by_cases c54 : t161 = t162
                      · rw [if_pos c54] at H
                        have c54b0 : (t161 == t162) = true := beq_iff_eq.mpr c54
                        have c54b1 : (t161 != t162) = false := bne_eq_false_iff_eq.mpr c54
                        clear c54
                        replace H := Option.bind_eq_some_iff.mp H
                        obtain ⟨t163, A550, H⟩ := H
                        replace H : ((rotuletref02_Between.f a0 a1 a2).bind fun t164 => (some (t163 == t164))) = some r := H
                        have A55 := Aside0.mk A550
                        clear A550
                        replace H := Option.bind_eq_some_iff.mp H
                        obtain ⟨t164, A560, H⟩ := H
                        replace H : (some (t163 == t164)) = some r := H
                        have A56 := Aside0.mk A560
                        clear A560
                        obtain rfl := Option.some.inj H
                        go_wp2_with (first | ((with_reducible refine gate_callee (f := 20) rfl ?_); refine goesL_ (some 95) rfl rfl Try.func20 (by kernel_rfl) rfl #[.int .u64 (IntKind.u64.wrap (a0))] rfl (by (try simp only [List.map_toArray, List.map_cons, List.map_nil]); first | done | rfl | (simp only [List.length_drop, List.length_take]; rfl)) ?_; (with_reducible refine (cast_Log.calls kj7 (IntKind.u64.wrap (a0)) t148 t149 _ A36.out).mono ?_); rintro e w' ⟨rfl, ⟨nd, rfl⟩⟩; refine ⟨_, rfl, ?_⟩) | ((with_reducible refine gate_callee (f := 27) rfl ?_); refine goesL_ (some 100) rfl rfl Try.func27 (by kernel_rfl) rfl #[.int .u64 (IntKind.u64.wrap (a0))] rfl (by (try simp only [List.map_toArray, List.map_cons, List.map_nil]); first | done | rfl | (simp only [List.length_drop, List.length_take]; rfl)) ?_; (with_reducible refine (rotuletref02_Log.calls kj7 (IntKind.u64.wrap (a0)) t150 t151 _ A37.out).mono ?_); rintro e w' ⟨rfl, ⟨nd, rfl⟩⟩; refine ⟨_, rfl, ?_⟩) | ((with_reducible refine gate_callee (f := 15) rfl ?_); refine goesL_ (some 106) rfl rfl Try.func15 (by kernel_rfl) rfl #[.int .u64 (IntKind.u64.wrap (a0)), .int .i64 a2] rfl (by (try simp only [List.map_toArray, List.map_cons, List.map_nil]); first | done | rfl | (simp only [List.length_drop, List.length_take]; rfl)) ?_; (with_reducible refine (cast_Align.calls (IntKind.u64.wrap (a0)) a2 t152 t153 _ A38.out).mono ?_); rintro e w57 ⟨rfl, hb⟩; refine ⟨_, rfl, ?_⟩; have n0_ := Aside0.mk (below_step (by repeat (first | (with_reducible first | exact HB.out | apply below_alloc | apply pw_below_drewN | apply below_drew1) | exact HB.out)) hb); clear HB; have HB := n0_; clear n0_; (try clear hb); (try clear hb2); (try clear hk); (try clear hi)) | ((with_reducible refine gate_callee (f := 28) rfl ?_); refine goesL_ (some 112) rfl rfl Try.func28 (by kernel_rfl) rfl #[.int .u64 (IntKind.u64.wrap (a0)), .int .i64 a2] rfl (by (try simp only [List.map_toArray, List.map_cons, List.map_nil]); first | done | rfl | (simp only [List.length_drop, List.length_take]; rfl)) ?_; (with_reducible refine (rotuletref02_Align.calls kj7 (IntKind.u64.wrap (a0)) a2 t154 t155 _ A39.out).mono ?_); rintro e w58 ⟨rfl, hb⟩; refine ⟨_, rfl, ?_⟩; have n0_ := Aside0.mk (below_step (by repeat (first | (with_reducible first | exact HB.out | apply below_alloc | apply pw_below_drewN | apply below_drew1) | exact HB.out)) hb); clear HB; have HB := n0_; clear n0_; (try clear hb); (try clear hb2); (try clear hk); (try clear hi)) | ((with_reducible refine gate_callee (f := 12) rfl ?_); refine goesL_ (some 115) rfl rfl Try.func12 (by kernel_rfl) rfl #[] rfl (by (try simp only [List.map_toArray, List.map_cons, List.map_nil]); first | done | rfl | (simp only [List.length_drop, List.length_take]; rfl)) ?_; (with_reducible refine (rotuletlaw02_alive.calls  true _ A40.out).mono ?_); rintro e w59 ⟨rfl, hb⟩; refine ⟨_, rfl, ?_⟩; have n0_ := Aside0.mk (below_step (by repeat (first | (with_reducible first | exact HB.out | apply below_alloc | apply pw_below_drewN | apply below_drew1) | exact HB.out)) hb); clear HB; have HB := n0_; clear n0_; (try clear hb); (try clear hb2); (try clear hk); (try clear hi)) | (go_at_call 16; (with_reducible refine (cast_Zig.calls a0 t157 _ A46.out).mono ?_); rintro e w' ⟨rfl, ⟨nd, rfl⟩⟩) | (go_at_call 29; (with_reducible refine (rotuletref02_Zig.calls a0 t158 _ A47.out).mono ?_); rintro e w' ⟨rfl, ⟨nd, rfl⟩⟩) | (go_at_call 19; (with_reducible refine (cast_Zag.calls (IntKind.u64.wrap (a0)) t159 _ A49.out).mono ?_); rintro e w' ⟨rfl, ⟨nd, rfl⟩⟩) | (go_at_call 30; (with_reducible refine (rotuletref02_Zag.calls (IntKind.u64.wrap (a0)) t160 _ A50.out).mono ?_); rintro e w' ⟨rfl, ⟨nd, rfl⟩⟩) | (go_at_call 13; (with_reducible refine (cast_Half.calls a0 a1 t161 _ A52.out).mono ?_); rintro e w' ⟨rfl, ⟨nd, rfl⟩⟩) | (go_at_call 31; (with_reducible refine (rotuletref02_Half.calls a0 a1 t162 _ A53.out).mono ?_); rintro e w' ⟨rfl, ⟨nd, rfl⟩⟩) | (go_at_call 17; (with_reducible refine (cast_Between.calls a0 a1 a2 t163 _ A55.out).mono ?_); rintro e w60 ⟨rfl, hb⟩; have n0_ := Aside0.mk (below_step (by repeat (first | (with_reducible first | exact HB.out | apply below_alloc | apply pw_below_drewN | apply below_drew1) | exact HB.out)) hb); clear HB; have HB := n0_; clear n0_; (try clear hb); (try clear hb2); (try clear hk); (try clear hi)) | (go_at_call 32; (with_reducible refine (rotuletref02_Between.calls a0 a1 a2 t164 _ A56.out).mono ?_); rintro e w61 ⟨rfl, hb⟩; have n0_ := Aside0.mk (below_step (by repeat (first | (with_reducible first | exact HB.out | apply below_alloc | apply pw_below_drewN | apply below_drew1) | exact HB.out)) hb); clear HB; have HB := n0_; clear n0_; (try clear hb); (try clear hb2); (try clear hk); (try clear hi)))
                        go_ret
                        exact ⟨by first | rfl | (simp [errW_none, errW_some] <;> rfl) | (simp [*, errW_none, errW_some] <;> rfl), by repeat (first | (with_reducible first | exact HB.out | apply below_alloc | apply pw_below_drewN | apply below_drew1) | exact HB.out)⟩
                      · rw [if_neg c54] at H
                        exact absurd (Option.some.inj H) (by rw [HRT.out]; decide)
                    · rw [if_neg c51] at H
                      exact absurd (Option.some.inj H) (by rw [HRT.out]; decide)
                  · rw [if_neg c48] at H
                    exact absurd (Option.some.inj H) (by rw [HRT.out]; decide)
                · rw [if_neg c45] at H
                  exact absurd (Option.some.inj H) (by rw [HRT.out]; decide)
              · rw [if_neg c44] at H
                exact absurd (Option.some.inj H) (by rw [HRT.out]; decide)
            · rw [if_neg c43] at H
              exact absurd (Option.some.inj H) (by rw [HRT.out]; decide)
          · rw [if_neg c42] at H
            exact absurd (Option.some.inj H) (by rw [HRT.out]; decide)
        · replace c41 := Bool.eq_false_iff.mpr c41
          subst c41
          have H1 : (some false) = some r := by rw [if_neg (show ¬ (false = true) by decide)] at H; exact H
          exact absurd (Option.some.inj H1) (by rw [HRT.out]; decide)
/-- THE ONE PURE STATEMENT of rotuletlaw02_CastTells: yours. -/
def rotuletlaw02_CastTells.Pure : Prop := ∀ (a0 : Int) (a1 : Int) (a2 : Int), (Lit.int .i64 a0).wf = true → (Lit.int .i64 a1).wf = true → (Lit.int .i64 a2).wf = true → ∃ k, rotuletlaw02_CastTells.f k a0 a1 a2 = some true
theorem rotuletlaw02_CastTells.walk (P : rotuletlaw02_CastTells.Pure) (a0 : Int) (a1 : Int) (a2 : Int) (w : World) (w0 : (Lit.int .i64 a0).wf = true) (w1 : (Lit.int .i64 a1).wf = true) (w2 : (Lit.int .i64 a2).wf = true) :
    Calls Try.prog 9 #[.int .i64 a0, .int .i64 a1, .int .i64 a2] w fun e w' => e = .returned (.bool true) ∧ Below w.heap.size w w' := by
  obtain ⟨k, h⟩ := P a0 a1 a2 w0 w1 w2
  refine (rotuletlaw02_CastTells.calls k a0 a1 a2 true rfl w h).mono ?_
  rintro e w' ⟨rfl, hd⟩
  exact ⟨rfl, hd⟩

end Go.Proofs.Ytjenbokdcbppoaa.Fn
