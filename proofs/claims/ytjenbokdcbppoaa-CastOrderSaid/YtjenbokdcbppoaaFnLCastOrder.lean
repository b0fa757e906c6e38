/- The functions that the laws of this seat reach, as Lean functions, and for each the proof that the Go code comes to just these answers (lines written by the kit's print for these claims, joined by a program of ours; where a remark says so, by hand). Conditions: none. -/
import Derived.Test.YtjenbokdcbppoaaFn2
namespace Go.Proofs.Ytjenbokdcbppoaa.Fn
open Go.RowKit Go.Proofs.YtjenbokdcbppoaaW.PrintWords Go.Proofs.YtjenbokdcbppoaaW.PrintLast Go.Proofs.YtjenbokdcbppoaaW.PrintMore
attribute [local go_sem] max2_int min2_int max_two min_two max_three min_three max_four min_four   -- for this text's walks alone
set_option linter.unusedVariables false
set_option linter.unusedSimpArgs false
/-! ### rotuletlaw02_CastOrder: function 4 -/
mutual
def rotuletlaw02_CastOrder.j0 : Nat → Int → Int → Int → Bool → Option (Bool)
  | 0, _, _, _, _ => none
  | k + 1, x2, x7, x8, x46 => if x46 = true then (some false) else ((cast_Align.f (IntKind.u64.wrap (x7)) x2).bind fun bt117 => ((cast_Align.f (IntKind.u64.wrap (x8)) x2).bind fun bt119 => (if bt117.2 = true then (if bt119.2 = true then (if ((decide ((IntKind.u64.wrap (x7)) ≤ (IntKind.u64.wrap (x8)))) != (decide (bt117.1 ≤ bt119.1))) = true then (rotuletlaw02_CastOrder.j1 k x7 x8 (bt117.1 != bt119.1)) else (rotuletlaw02_CastOrder.j1 k x7 x8 false)) else (rotuletlaw02_CastOrder.j1 k x7 x8 false)) else (rotuletlaw02_CastOrder.j1 k x7 x8 false))))
def rotuletlaw02_CastOrder.j1 : Nat → Int → Int → Bool → Option (Bool)
  | 0, _, _, _ => none
  | k + 1, x7, x8, x80 => if x80 = true then (some false) else (if x7 ≥ 0 then ((cast_Zig.f x7).bind fun t121 => ((cast_Zig.f x8).bind fun t122 => (if ((decide (t121 ≤ t122)) != (decide (x7 ≤ x8))) = true then (rotuletlaw02_CastOrder.j2 k x7 true) else (if x8 < 0 then ((cast_Zig.f x7).bind fun t123 => ((cast_Zig.f x8).bind fun t124 => (rotuletlaw02_CastOrder.j2 k x7 ((decide (t123 ≥ t124)) != (decide (x7 ≤ x8)))))) else (rotuletlaw02_CastOrder.j2 k x7 false))))) else (if x8 < 0 then ((cast_Zig.f x7).bind fun t125 => ((cast_Zig.f x8).bind fun t126 => (rotuletlaw02_CastOrder.j2 k x7 ((decide (t125 ≥ t126)) != (decide (x7 ≤ x8)))))) else (rotuletlaw02_CastOrder.j2 k x7 false)))
def rotuletlaw02_CastOrder.j2 : Nat → Int → Bool → Option (Bool)
  | 0, _, _ => none
  | k + 1, x7, x108 => if x108 = true then (some false) else (if x7 > (-9223372036854775808) then (if x7 < 0 then ((cast_Zig.f x7).bind fun t127 => ((cast_Zig.f (wrap64 (-x7))).bind fun t128 => (if t127 ≥ t128 then (some false) else ((cast_Zig.f x7).bind fun t129 => ((cast_Zig.f (wrap64 (-x7))).bind fun t130 => (if (IntKind.u64.wrap (t129 + 1)) = t130 then ((rotuletlaw02_alive.f).bind fun t131 => (some t131)) else (some false))))))) else ((rotuletlaw02_alive.f).bind fun t132 => (some t132))) else ((rotuletlaw02_alive.f).bind fun t133 => (some t133)))
end
def rotuletlaw02_CastOrder.f (k : Nat) (a0 : Int) (a1 : Int) (a2 : Int) : Option (Bool) := (cast_Half.f a0 a1).bind fun t113 => ((cast_Clamp.f (mn a0 a1) a2).bind fun t114 => ((cast_Clamp.f (mx a0 a1) a2).bind fun t115 => (if t114 > t115 then (rotuletlaw02_CastOrder.j0 k a2 (mn a0 a1) (mx a0 a1) true) else (if t113 < (mn a0 a1) then (rotuletlaw02_CastOrder.j0 k a2 (mn a0 a1) (mx a0 a1) true) else (if t113 > (mx a0 a1) then (rotuletlaw02_CastOrder.j0 k a2 (mn a0 a1) (mx a0 a1) true) else ((cast_Half.f a1 a0).bind fun t116 => (rotuletlaw02_CastOrder.j0 k a2 (mn a0 a1) (mx a0 a1) (t113 != t116))))))))
theorem rotuletlaw02_CastOrder.mono_l : ∀ k, (∀ y0 y1 y2 y3, LeO (rotuletlaw02_CastOrder.j0 k y0 y1 y2 y3) (rotuletlaw02_CastOrder.j0 (k + 1) y0 y1 y2 y3)) ∧ (∀ y0 y1 y2, LeO (rotuletlaw02_CastOrder.j1 k y0 y1 y2) (rotuletlaw02_CastOrder.j1 (k + 1) y0 y1 y2)) ∧ (∀ y0 y1, LeO (rotuletlaw02_CastOrder.j2 k y0 y1) (rotuletlaw02_CastOrder.j2 (k + 1) y0 y1))
  | 0 => ⟨fun _ _ _ _ r h => by simp [rotuletlaw02_CastOrder.j0] at h, fun _ _ _ r h => by simp [rotuletlaw02_CastOrder.j1] at h, fun _ _ r h => by simp [rotuletlaw02_CastOrder.j2] at h⟩
  | k + 1 => by
    obtain ⟨ih0, ih1, ih2⟩ := rotuletlaw02_CastOrder.mono_l k
    refine ⟨?_, ?_, ?_⟩
    · intro y0 y1 y2 y3
      unfold rotuletlaw02_CastOrder.j0
      repeat' first
      | (with_reducible exact ih0 _ _ _ _)
      | (with_reducible exact ih1 _ _ _)
      | (with_reducible exact ih2 _ _)
      | (with_reducible exact LeO.refl _)
      | (with_reducible exact LeO.none _)
      | (with_reducible refine LeO.ite ?_ ?_)
      | (with_reducible refine LeO.bind ?_ (fun _ => ?_))
      | exact ih0 _ _ _ _
      | exact ih1 _ _ _
      | exact ih2 _ _
      | exact LeO.none _
      | refine LeO.ite ?_ ?_
      | refine LeO.bind ?_ (fun _ => ?_)
    · intro y0 y1 y2
      unfold rotuletlaw02_CastOrder.j1
      repeat' first
      | (with_reducible exact ih0 _ _ _ _)
      | (with_reducible exact ih1 _ _ _)
      | (with_reducible exact ih2 _ _)
      | (with_reducible exact LeO.refl _)
      | (with_reducible exact LeO.none _)
      | (with_reducible refine LeO.ite ?_ ?_)
      | (with_reducible refine LeO.bind ?_ (fun _ => ?_))
      | exact ih0 _ _ _ _
      | exact ih1 _ _ _
      | exact ih2 _ _
      | exact LeO.none _
      | refine LeO.ite ?_ ?_
      | refine LeO.bind ?_ (fun _ => ?_)
    · intro y0 y1
      unfold rotuletlaw02_CastOrder.j2
      repeat' first
      | (with_reducible exact ih0 _ _ _ _)
      | (with_reducible exact ih1 _ _ _)
      | (with_reducible exact ih2 _ _)
      | (with_reducible exact LeO.refl _)
      | (with_reducible exact LeO.none _)
      | (with_reducible refine LeO.ite ?_ ?_)
      | (with_reducible refine LeO.bind ?_ (fun _ => ?_))
      | exact ih0 _ _ _ _
      | exact ih1 _ _ _
      | exact ih2 _ _
      | exact LeO.none _
      | refine LeO.ite ?_ ?_
      | refine LeO.bind ?_ (fun _ => ?_)
theorem rotuletlaw02_CastOrder.mono : ∀ a0 a1 a2 k, LeO (rotuletlaw02_CastOrder.f k a0 a1 a2) (rotuletlaw02_CastOrder.f (k + 1) a0 a1 a2) := by
  intro a0 a1 a2 k
  obtain ⟨ih0, ih1, ih2⟩ := rotuletlaw02_CastOrder.mono_l k
  unfold rotuletlaw02_CastOrder.f
  repeat' first
      | (with_reducible exact ih0 _ _ _ _)
      | (with_reducible exact ih1 _ _ _)
      | (with_reducible exact ih2 _ _)
      | (with_reducible exact LeO.refl _)
      | (with_reducible exact LeO.none _)
      | (with_reducible refine LeO.ite ?_ ?_)
      | (with_reducible refine LeO.bind ?_ (fun _ => ?_))
      | exact ih0 _ _ _ _
      | exact ih1 _ _ _
      | exact ih2 _ _
      | exact LeO.none _
      | refine LeO.ite ?_ ?_
      | refine LeO.bind ?_ (fun _ => ?_)
set_option maxHeartbeats 8000000 in
set_option maxRecDepth 100000 in
theorem rotuletlaw02_CastOrder.calls (k : Nat) (a0 : Int) (a1 : Int) (a2 : Int) (r : Bool) (hrt : r = true) (w : World) (h : rotuletlaw02_CastOrder.f k a0 a1 a2 = some r) :
    Calls Try.prog 4 #[.int .i64 a0, .int .i64 a1, .int .i64 a2] w fun e w' => e = .returned (.bool r) ∧ Below w.heap.size w w' := by
  have HRT := Aside0.mk hrt
  clear hrt
  have HB := Aside0.mk (Below.refl w.heap.size w)
  have H : ((cast_Half.f a0 a1).bind fun t113 => ((cast_Clamp.f (mn a0 a1) a2).bind fun t114 => ((cast_Clamp.f (mx a0 a1) a2).bind fun t115 => (if t114 > t115 then (rotuletlaw02_CastOrder.j0 k a2 (mn a0 a1) (mx a0 a1) true) else (if t113 < (mn a0 a1) then (rotuletlaw02_CastOrder.j0 k a2 (mn a0 a1) (mx a0 a1) true) else (if t113 > (mx a0 a1) then (rotuletlaw02_CastOrder.j0 k a2 (mn a0 a1) (mx a0 a1) true) else ((cast_Half.f a1 a0).bind fun t116 => (rotuletlaw02_CastOrder.j0 k a2 (mn a0 a1) (mx a0 a1) (t113 != t116))))))))) = some r := h
  clear h
  obtain ⟨ji4, hji4⟩ : ∃ j_ : Int, (mn a0 a1) = j_ := ⟨_, rfl⟩
  replace H : ((cast_Half.f a0 a1).bind fun t113 => ((cast_Clamp.f (ji4) a2).bind fun t114 => ((cast_Clamp.f (mx a0 a1) a2).bind fun t115 => (if t114 > t115 then (rotuletlaw02_CastOrder.j0 k a2 ji4 (mx a0 a1) true) else (if t113 < (ji4) then (rotuletlaw02_CastOrder.j0 k a2 ji4 (mx a0 a1) true) else (if t113 > (mx a0 a1) then (rotuletlaw02_CastOrder.j0 k a2 ji4 (mx a0 a1) true) else ((cast_Half.f a1 a0).bind fun t116 => (rotuletlaw02_CastOrder.j0 k a2 ji4 (mx a0 a1) (t113 != t116))))))))) = some r := by first | (rw [hji4] at H; exact H) | (simp only [hji4] at H ⊢; exact H)
  have hji4_ : (if a1 < a0 then a1 else a0) = ji4 := hji4
  obtain ⟨ji5, hji5⟩ : ∃ j_ : Int, (mx a0 a1) = j_ := ⟨_, rfl⟩
  replace H : ((cast_Half.f a0 a1).bind fun t113 => ((cast_Clamp.f (ji4) a2).bind fun t114 => ((cast_Clamp.f (ji5) a2).bind fun t115 => (if t114 > t115 then (rotuletlaw02_CastOrder.j0 k a2 ji4 ji5 true) else (if t113 < (ji4) then (rotuletlaw02_CastOrder.j0 k a2 ji4 ji5 true) else (if t113 > (ji5) then (rotuletlaw02_CastOrder.j0 k a2 ji4 ji5 true) else ((cast_Half.f a1 a0).bind fun t116 => (rotuletlaw02_CastOrder.j0 k a2 ji4 ji5 (t113 != t116))))))))) = some r := by first | (rw [hji5] at H; exact H) | (simp only [hji5] at H ⊢; exact H)
  have hji5_ : (if a0 < a1 then a1 else a0) = ji5 := hji5
  replace H := Option.bind_eq_some_iff.mp H
  obtain ⟨t113, A60, H⟩ := H
  replace H : ((cast_Clamp.f (ji4) a2).bind fun t114 => ((cast_Clamp.f (ji5) a2).bind fun t115 => (if t114 > t115 then (rotuletlaw02_CastOrder.j0 k a2 ji4 ji5 true) else (if t113 < (ji4) then (rotuletlaw02_CastOrder.j0 k a2 ji4 ji5 true) else (if t113 > (ji5) then (rotuletlaw02_CastOrder.j0 k a2 ji4 ji5 true) else ((cast_Half.f a1 a0).bind fun t116 => (rotuletlaw02_CastOrder.j0 k a2 ji4 ji5 (t113 != t116)))))))) = some r := H
  have A6 := Aside0.mk A60
  clear A60
  have HC7 := Aside0.mk H
  clear H
  go_enter Try.func4, Try.ntmps4
  go_upto_region 4 with (first | ((with_reducible refine gate_callee (f := 13) rfl ?_); refine goesL_ (some 22) rfl rfl Try.func13 (by kernel_rfl) rfl #[.int .i64 a0, .int .i64 a1] rfl (by (try simp only [List.map_toArray, List.map_cons, List.map_nil]); first | done | rfl | (simp only [List.length_drop, List.length_take]; rfl)) ?_; (with_reducible refine (cast_Half.calls a0 a1 t113 _ A6.out).mono ?_); rintro e w' ⟨rfl, ⟨nd, rfl⟩⟩; refine ⟨_, rfl, ?_⟩))
  (try simp only [Act.put, List.setIfInBounds_toArray, List.set_cons_zero, List.set_cons_succ])
  go_cut [46] (fun v46 wc => ∃ (kq : Nat) (x46_6 : Bool), v46 = .bool x46_6 ∧ Aside0 (rotuletlaw02_CastOrder.j0 kq a2 ji4 ji5 x46_6 = some r) ∧ Aside0 (kq ≤ k) ∧ Aside0 (Below w.heap.size w wc))
  case first =>
    have H := HC7.out
    clear HC7
    replace H := Option.bind_eq_some_iff.mp H
    obtain ⟨t114, A80, H⟩ := H
    replace H : ((cast_Clamp.f (ji5) a2).bind fun t115 => (if t114 > t115 then (rotuletlaw02_CastOrder.j0 k a2 ji4 ji5 true) else (if t113 < (ji4) then (rotuletlaw02_CastOrder.j0 k a2 ji4 ji5 true) else (if t113 > (ji5) then (rotuletlaw02_CastOrder.j0 k a2 ji4 ji5 true) else ((cast_Half.f a1 a0).bind fun t116 => (rotuletlaw02_CastOrder.j0 k a2 ji4 ji5 (t113 != t116))))))) = some r := H
    have A8 := Aside0.mk A80
    clear A80
    replace H := Option.bind_eq_some_iff.mp H
    obtain ⟨t115, A90, H⟩ := H
    replace H : (if t114 > t115 then (rotuletlaw02_CastOrder.j0 k a2 ji4 ji5 true) else (if t113 < (ji4) then (rotuletlaw02_CastOrder.j0 k a2 ji4 ji5 true) else (if t113 > (ji5) then (rotuletlaw02_CastOrder.j0 k a2 ji4 ji5 true) else ((cast_Half.f a1 a0).bind fun t116 => (rotuletlaw02_CastOrder.j0 k a2 ji4 ji5 (t113 != t116)))))) = some r := H
    have A9 := Aside0.mk A90
    clear A90
    by_cases c10 : t114 > t115
    · rw [if_pos c10] at H
      have c10b0 : decide (t115 < t114) = true := decide_eq_true c10
      clear c10
      (first | rw [c10b0] | (simp only [i64_w, i32_w]; rw [c10b0]) | skip)
      have H' := Aside0.mk H
      clear H
      go_wp2_with (first | ((with_reducible refine gate_callee (f := 14) rfl ?_); refine goesL_ (some 25) rfl rfl Try.func14 (by kernel_rfl) rfl #[.int .i64 ji4, .int .i64 a2] rfl (by (try simp only [List.map_toArray, List.map_cons, List.map_nil]); first | done | (simp only [hji4]; rfl) | rfl | (simp only [List.length_drop, List.length_take]; rfl)) ?_; (with_reducible refine (cast_Clamp.calls ji4 a2 t114 _ A8.out).mono ?_); rintro e w11 ⟨rfl, hb⟩; refine ⟨_, rfl, ?_⟩; have n0_ := Aside0.mk (below_step (by repeat (first | (with_reducible first | exact HB.out | apply below_alloc | apply pw_below_drewN | apply below_drew1) | exact HB.out)) hb); clear HB; have HB := n0_; clear n0_; (try clear hb); (try clear hb2); (try clear hk); (try clear hi)) | ((with_reducible refine gate_callee (f := 14) rfl ?_); refine goesL_ (some 28) rfl rfl Try.func14 (by kernel_rfl) rfl #[.int .i64 ji5, .int .i64 a2] rfl (by (try simp only [List.map_toArray, List.map_cons, List.map_nil]); first | done | (simp only [hji5]; rfl) | rfl | (simp only [List.length_drop, List.length_take]; rfl)) ?_; (with_reducible refine (cast_Clamp.calls ji5 a2 t115 _ A9.out).mono ?_); rintro e w12 ⟨rfl, hb⟩; refine ⟨_, rfl, ?_⟩; have n0_ := Aside0.mk (below_step (by repeat (first | (with_reducible first | exact HB.out | apply below_alloc | apply pw_below_drewN | apply below_drew1) | exact HB.out)) hb); clear HB; have HB := n0_; clear n0_; (try clear hb); (try clear hb2); (try clear hk); (try clear hi)))
      go_meet
      case rel => exact ⟨_, (true), (by first | rfl | (simp; done) | (simp [*]; done)), H', ⟨by first | omega | exact Nat.le_refl _⟩, ⟨by repeat (first | (with_reducible first | exact HB.out | apply below_alloc | apply pw_below_drewN | apply below_drew1) | exact HB.out)⟩⟩
    · rw [if_neg c10] at H
      have c10b0 : decide (t115 < t114) = false := decide_eq_false c10
      clear c10
      (first | rw [c10b0] | (simp only [i64_w, i32_w]; rw [c10b0]) | skip)
      by_cases c13 : t113 < (ji4)
      · rw [if_pos c13] at H
        have c13b0 : decide (t113 < (ji4)) = true := decide_eq_true c13
        clear c13
        have H' := Aside0.mk H
        clear H
        go_wp2_with (first | ((with_reducible refine gate_callee (f := 14) rfl ?_); refine goesL_ (some 25) rfl rfl Try.func14 (by kernel_rfl) rfl #[.int .i64 ji4, .int .i64 a2] rfl (by (try simp only [List.map_toArray, List.map_cons, List.map_nil]); first | done | (simp only [hji4]; rfl) | rfl | (simp only [List.length_drop, List.length_take]; rfl)) ?_; (with_reducible refine (cast_Clamp.calls ji4 a2 t114 _ A8.out).mono ?_); rintro e w14 ⟨rfl, hb⟩; refine ⟨_, rfl, ?_⟩; have n0_ := Aside0.mk (below_step (by repeat (first | (with_reducible first | exact HB.out | apply below_alloc | apply pw_below_drewN | apply below_drew1) | exact HB.out)) hb); clear HB; have HB := n0_; clear n0_; (try clear hb); (try clear hb2); (try clear hk); (try clear hi)) | ((with_reducible refine gate_callee (f := 14) rfl ?_); refine goesL_ (some 28) rfl rfl Try.func14 (by kernel_rfl) rfl #[.int .i64 ji5, .int .i64 a2] rfl (by (try simp only [List.map_toArray, List.map_cons, List.map_nil]); first | done | (simp only [hji5]; rfl) | rfl | (simp only [List.length_drop, List.length_take]; rfl)) ?_; (with_reducible refine (cast_Clamp.calls ji5 a2 t115 _ A9.out).mono ?_); rintro e w15 ⟨rfl, hb⟩; refine ⟨_, rfl, ?_⟩; have n0_ := Aside0.mk (below_step (by repeat (first | (with_reducible first | exact HB.out | apply below_alloc | apply pw_below_drewN | apply below_drew1) | exact HB.out)) hb); clear HB; have HB := n0_; clear n0_; (try clear hb); (try clear hb2); (try clear hk); (try clear hi)))
        go_meet
        case rel => exact ⟨_, (true), (by first | rfl | (simp; done) | (simp [*]; done)), H', ⟨by first | omega | exact Nat.le_refl _⟩, ⟨by repeat (first | (with_reducible first | exact HB.out | apply below_alloc | apply pw_below_drewN | apply below_drew1) | exact HB.out)⟩⟩
      · rw [if_neg c13] at H
        have c13b0 : decide (t113 < (ji4)) = false := decide_eq_false c13
        clear c13
        by_cases c16 : t113 > (ji5)
        · rw [if_pos c16] at H
          have c16b0 : decide ((ji5) < t113) = true := decide_eq_true c16
          clear c16
          have H' := Aside0.mk H
          clear H
          go_wp2_with (first | ((with_reducible refine gate_callee (f := 14) rfl ?_); refine goesL_ (some 25) rfl rfl Try.func14 (by kernel_rfl) rfl #[.int .i64 ji4, .int .i64 a2] rfl (by (try simp only [List.map_toArray, List.map_cons, List.map_nil]); first | done | (simp only [hji4]; rfl) | rfl | (simp only [List.length_drop, List.length_take]; rfl)) ?_; (with_reducible refine (cast_Clamp.calls ji4 a2 t114 _ A8.out).mono ?_); rintro e w17 ⟨rfl, hb⟩; refine ⟨_, rfl, ?_⟩; have n0_ := Aside0.mk (below_step (by repeat (first | (with_reducible first | exact HB.out | apply below_alloc | apply pw_below_drewN | apply below_drew1) | exact HB.out)) hb); clear HB; have HB := n0_; clear n0_; (try clear hb); (try clear hb2); (try clear hk); (try clear hi)) | ((with_reducible refine gate_callee (f := 14) rfl ?_); refine goesL_ (some 28) rfl rfl Try.func14 (by kernel_rfl) rfl #[.int .i64 ji5, .int .i64 a2] rfl (by (try simp only [List.map_toArray, List.map_cons, List.map_nil]); first | done | (simp only [hji5]; rfl) | rfl | (simp only [List.length_drop, List.length_take]; rfl)) ?_; (with_reducible refine (cast_Clamp.calls ji5 a2 t115 _ A9.out).mono ?_); rintro e w18 ⟨rfl, hb⟩; refine ⟨_, rfl, ?_⟩; have n0_ := Aside0.mk (below_step (by repeat (first | (with_reducible first | exact HB.out | apply below_alloc | apply pw_below_drewN | apply below_drew1) | exact HB.out)) hb); clear HB; have HB := n0_; clear n0_; (try clear hb); (try clear hb2); (try clear hk); (try clear hi)))
          go_meet
          case rel => exact ⟨_, (true), (by first | rfl | (simp; done) | (simp [*]; done)), H', ⟨by first | omega | exact Nat.le_refl _⟩, ⟨by repeat (first | (with_reducible first | exact HB.out | apply below_alloc | apply pw_below_drewN | apply below_drew1) | exact HB.out)⟩⟩
        · rw [if_neg c16] at H
          have c16b0 : decide ((ji5) < t113) = false := decide_eq_false c16
          clear c16
          replace H := Option.bind_eq_some_iff.mp H
          obtain ⟨t116, A190, H⟩ := H
          replace H : (rotuletlaw02_CastOrder.j0 k a2 ji4 ji5 (t113 != t116)) = some r := H
          have A19 := Aside0.mk A190
          clear A190
          have H' := Aside0.mk H
          clear H
          go_wp2_with (first | ((with_reducible refine gate_callee (f := 14) rfl ?_); refine goesL_ (some 25) rfl rfl Try.func14 (by kernel_rfl) rfl #[.int .i64 ji4, .int .i64 a2] rfl (by (try simp only [List.map_toArray, List.map_cons, List.map_nil]); first | done | (simp only [hji4]; rfl) | rfl | (simp only [List.length_drop, List.length_take]; rfl)) ?_; (with_reducible refine (cast_Clamp.calls ji4 a2 t114 _ A8.out).mono ?_); rintro e w20 ⟨rfl, hb⟩; refine ⟨_, rfl, ?_⟩; have n0_ := Aside0.mk (below_step (by repeat (first | (with_reducible first | exact HB.out | apply below_alloc | apply pw_below_drewN | apply below_drew1) | exact HB.out)) hb); clear HB; have HB := n0_; clear n0_; (try clear hb); (try clear hb2); (try clear hk); (try clear hi)) | ((with_reducible refine gate_callee (f := 14) rfl ?_); refine goesL_ (some 28) rfl rfl Try.func14 (by kernel_rfl) rfl #[.int .i64 ji5, .int .i64 a2] rfl (by (try simp only [List.map_toArray, List.map_cons, List.map_nil]); first | done | (simp only [hji5]; rfl) | rfl | (simp only [List.length_drop, List.length_take]; rfl)) ?_; (with_reducible refine (cast_Clamp.calls ji5 a2 t115 _ A9.out).mono ?_); rintro e w21 ⟨rfl, hb⟩; refine ⟨_, rfl, ?_⟩; have n0_ := Aside0.mk (below_step (by repeat (first | (with_reducible first | exact HB.out | apply below_alloc | apply pw_below_drewN | apply below_drew1) | exact HB.out)) hb); clear HB; have HB := n0_; clear n0_; (try clear hb); (try clear hb2); (try clear hk); (try clear hi)) | (go_at_call 13; (with_reducible refine (cast_Half.calls a1 a0 t116 _ A19.out).mono ?_); rintro e w' ⟨rfl, ⟨nd, rfl⟩⟩))
          go_meet
          case rel => exact ⟨_, ((t113 != t116)), (by first | rfl | (simp; done) | (simp [*]; done)), H', ⟨by first | omega | exact Nat.le_refl _⟩, ⟨by repeat (first | (with_reducible first | exact HB.out | apply below_alloc | apply pw_below_drewN | apply below_drew1) | exact HB.out)⟩⟩
  case rest =>
    clear HC7
    try clear c1
    try clear p2
    try clear c4
    try clear c10
    try clear c10b0
    try clear c13
    try clear c13b0
    try clear c14
    try clear c16
    try clear c16b0
    obtain ⟨kq, x46_6, rfl, HA, HJ6, HB⟩ := hcut
    cases kq with
    | zero => exact absurd HA.out (by simp [rotuletlaw02_CastOrder.j0])
    | succ kj6 =>
      have H := HA.out
      clear HA
      simp only [rotuletlaw02_CastOrder.j0] at H
      by_cases c22 : x46_6 = true
      · subst c22
        have H1 : (some false) = some r := by rw [if_pos rfl] at H; exact H
        exact absurd (Option.some.inj H1) (by rw [HRT.out]; decide)
      · replace c22 := Bool.eq_false_iff.mpr c22
        subst c22
        have H1 : ((cast_Align.f (IntKind.u64.wrap (ji4)) a2).bind fun bt117 => ((cast_Align.f (IntKind.u64.wrap (ji5)) a2).bind fun bt119 => (if bt117.2 = true then (if bt119.2 = true then (if ((decide ((IntKind.u64.wrap (ji4)) ≤ (IntKind.u64.wrap (ji5)))) != (decide (bt117.1 ≤ bt119.1))) = true then (rotuletlaw02_CastOrder.j1 kj6 ji4 ji5 (bt117.1 != bt119.1)) else (rotuletlaw02_CastOrder.j1 kj6 ji4 ji5 false)) else (rotuletlaw02_CastOrder.j1 kj6 ji4 ji5 false)) else (rotuletlaw02_CastOrder.j1 kj6 ji4 ji5 false)))) = some r := by rw [if_neg (show ¬ (false = true) by decide)] at H; exact H
        clear H
        have H := H1
        clear H1
        replace H := Option.bind_eq_some_iff.mp H
        obtain ⟨⟨t117, t118⟩, A230, H⟩ := H
        replace H : ((cast_Align.f (IntKind.u64.wrap (ji5)) a2).bind fun bt119 => (if t118 = true then (if bt119.2 = true then (if ((decide ((IntKind.u64.wrap (ji4)) ≤ (IntKind.u64.wrap (ji5)))) != (decide (t117 ≤ bt119.1))) = true then (rotuletlaw02_CastOrder.j1 kj6 ji4 ji5 (t117 != bt119.1)) else (rotuletlaw02_CastOrder.j1 kj6 ji4 ji5 false)) else (rotuletlaw02_CastOrder.j1 kj6 ji4 ji5 false)) else (rotuletlaw02_CastOrder.j1 kj6 ji4 ji5 false))) = some r := H
        have A23 := Aside0.mk A230
        clear A230
        replace H := Option.bind_eq_some_iff.mp H
        obtain ⟨⟨t119, t120⟩, A240, H⟩ := H
        replace H : (if t118 = true then (if t120 = true then (if ((decide ((IntKind.u64.wrap (ji4)) ≤ (IntKind.u64.wrap (ji5)))) != (decide (t117 ≤ t119))) = true then (rotuletlaw02_CastOrder.j1 kj6 ji4 ji5 (t117 != t119)) else (rotuletlaw02_CastOrder.j1 kj6 ji4 ji5 false)) else (rotuletlaw02_CastOrder.j1 kj6 ji4 ji5 false)) else (rotuletlaw02_CastOrder.j1 kj6 ji4 ji5 false)) = some r := H
        have A24 := Aside0.mk A240
        clear A240
        have HC25 := Aside0.mk H
        clear H
        go_upto_region 8 with (first | ((with_reducible refine gate_callee (f := 15) rfl ?_); refine goesL_ (some 51) rfl rfl Try.func15 (by kernel_rfl) rfl #[.int .u64 (IntKind.u64.wrap (ji4)), .int .i64 a2] rfl (by (try simp only [List.map_toArray, List.map_cons, List.map_nil]); first | done | (simp only [hji4]; rfl) | rfl | (simp only [List.length_drop, List.length_take]; rfl)) ?_; (with_reducible refine (cast_Align.calls (IntKind.u64.wrap (ji4)) a2 t117 t118 _ A23.out).mono ?_); rintro e w26 ⟨rfl, hb⟩; refine ⟨_, rfl, ?_⟩; have n0_ := Aside0.mk (below_step (by repeat (first | (with_reducible first | exact HB.out | apply below_alloc | apply pw_below_drewN | apply below_drew1) | exact HB.out)) hb); clear HB; have HB := n0_; clear n0_; (try clear hb); (try clear hb2); (try clear hk); (try clear hi)) | ((with_reducible refine gate_callee (f := 15) rfl ?_); refine goesL_ (some 58) rfl rfl Try.func15 (by kernel_rfl) rfl #[.int .u64 (IntKind.u64.wrap (ji5)), .int .i64 a2] rfl (by (try simp only [List.map_toArray, List.map_cons, List.map_nil]); first | done | (simp only [hji5]; rfl) | rfl | (simp only [List.length_drop, List.length_take]; rfl)) ?_; (with_reducible refine (cast_Align.calls (IntKind.u64.wrap (ji5)) a2 t119 t120 _ A24.out).mono ?_); rintro e w27 ⟨rfl, hb⟩; refine ⟨_, rfl, ?_⟩; have n0_ := Aside0.mk (below_step (by repeat (first | (with_reducible first | exact HB.out | apply below_alloc | apply pw_below_drewN | apply below_drew1) | exact HB.out)) hb); clear HB; have HB := n0_; clear n0_; (try clear hb); (try clear hb2); (try clear hk); (try clear hi)))
        (try simp only [Act.put, List.setIfInBounds_toArray, List.set_cons_zero, List.set_cons_succ])
        go_cut [80] (fun v80 wc => ∃ (kq : Nat) (x80_24 : Bool), v80 = .bool x80_24 ∧ Aside0 (rotuletlaw02_CastOrder.j1 kq ji4 ji5 x80_24 = some r) ∧ Aside0 (kq ≤ kj6) ∧ Aside0 (Below w.heap.size w wc))
        case first =>
          have H := HC25.out
          clear HC25
          by_cases c28 : t118 = true
          · subst c28
            have H1 : (if t120 = true then (if ((decide ((IntKind.u64.wrap (ji4)) ≤ (IntKind.u64.wrap (ji5)))) != (decide (t117 ≤ t119))) = true then (rotuletlaw02_CastOrder.j1 kj6 ji4 ji5 (t117 != t119)) else (rotuletlaw02_CastOrder.j1 kj6 ji4 ji5 false)) else (rotuletlaw02_CastOrder.j1 kj6 ji4 ji5 false)) = some r := by rw [if_pos rfl] at H; exact H
            clear H
            have H := H1
            clear H1
            by_cases c29 : t120 = true
            · subst c29
              have H1 : (if ((decide ((IntKind.u64.wrap (ji4)) ≤ (IntKind.u64.wrap (ji5)))) != (decide (t117 ≤ t119))) = true then (rotuletlaw02_CastOrder.j1 kj6 ji4 ji5 (t117 != t119)) else (rotuletlaw02_CastOrder.j1 kj6 ji4 ji5 false)) = some r := by rw [if_pos rfl] at H; exact H
              clear H
              have H := H1
              clear H1
              by_cases c30 : ((decide ((IntKind.u64.wrap (ji4)) ≤ (IntKind.u64.wrap (ji5)))) != (decide (t117 ≤ t119))) = true
              · rw [if_pos c30] at H
                have c30b0 : ((decide ((IntKind.u64.wrap (ji4)) ≤ (IntKind.u64.wrap (ji5)))) != (decide (t117 ≤ t119))) = true := c30
                (try (have c30b1 : decide ((decide ((IntKind.u64.wrap (ji4)) ≤ (IntKind.u64.wrap (ji5)))) = (decide (t117 ≤ t119))) = false := by simpa using c30))
                (try (have c30b2 : ((decide ((IntKind.u64.wrap (ji4)) ≤ (IntKind.u64.wrap (ji5)))) == (decide (t117 ≤ t119))) = false := by simpa using c30))
                (try (have c30b3 : ¬ ((decide ((IntKind.u64.wrap (ji4)) ≤ (IntKind.u64.wrap (ji5)))) = (decide (t117 ≤ t119))) := by simpa using c30))
                clear c30
                (first | rw [c30b0] | (simp only [i64_w, i32_w]; rw [c30b0]) | skip)
                have H' := Aside0.mk H
                clear H
                go_wp2
                go_meet
                case rel => exact ⟨_, ((t117 != t119)), (by first | rfl | (simp; done) | (simp [*]; done)), H', ⟨by have := HJ6.out; first | omega | exact Nat.le_refl _⟩, ⟨by repeat (first | (with_reducible first | exact HB.out | apply below_alloc | apply pw_below_drewN | apply below_drew1) | exact HB.out)⟩⟩
              · rw [if_neg c30] at H
                have c30b0 : ((decide ((IntKind.u64.wrap (ji4)) ≤ (IntKind.u64.wrap (ji5)))) != (decide (t117 ≤ t119))) = false := by simpa using c30
                (try (have c30b1 : decide ((decide ((IntKind.u64.wrap (ji4)) ≤ (IntKind.u64.wrap (ji5)))) = (decide (t117 ≤ t119))) = true := by simpa using c30))
                (try (have c30b2 : ((decide ((IntKind.u64.wrap (ji4)) ≤ (IntKind.u64.wrap (ji5)))) == (decide (t117 ≤ t119))) = true := by simpa using c30))
                clear c30
                (first | rw [c30b0] | (simp only [i64_w, i32_w]; rw [c30b0]) | skip)
                have H' := Aside0.mk H
                clear H
                go_wp2
                go_meet
                case rel => exact ⟨_, (false), (by first | rfl | (simp; done) | (simp [*]; done)), H', ⟨by have := HJ6.out; first | omega | exact Nat.le_refl _⟩, ⟨by repeat (first | (with_reducible first | exact HB.out | apply below_alloc | apply pw_below_drewN | apply below_drew1) | exact HB.out)⟩⟩
            · replace c29 := Bool.eq_false_iff.mpr c29
              subst c29
              have H1 : (rotuletlaw02_CastOrder.j1 kj6 ji4 ji5 false) = some r := by rw [if_neg (show ¬ (false = true) by decide)] at H; exact H
              clear H
              have H := H1
              clear H1
              have H' := Aside0.mk H
              clear H
              go_wp2
              go_meet
              case rel => exact ⟨_, (false), (by first | rfl | (simp; done) | (simp [*]; done)), H', ⟨by have := HJ6.out; first | omega | exact Nat.le_refl _⟩, ⟨by repeat (first | (with_reducible first | exact HB.out | apply below_alloc | apply pw_below_drewN | apply below_drew1) | exact HB.out)⟩⟩
          · replace c28 := Bool.eq_false_iff.mpr c28
            subst c28
            have H1 : (rotuletlaw02_CastOrder.j1 kj6 ji4 ji5 false) = some r := by rw [if_neg (show ¬ (false = true) by decide)] at H; exact H
            clear H
            have H := H1
            clear H1
            have H' := Aside0.mk H
            clear H
            go_wp2
            go_meet
            case rel => exact ⟨_, (false), (by first | rfl | (simp; done) | (simp [*]; done)), H', ⟨by have := HJ6.out; first | omega | exact Nat.le_refl _⟩, ⟨by repeat (first | (with_reducible first | exact HB.out | apply below_alloc | apply pw_below_drewN | apply below_drew1) | exact HB.out)⟩⟩
        case rest =>
          clear HC25
          try clear c1
          try clear c2
          try clear p2
          try clear c3
          try clear c4
          try clear c10
          try clear c10b0
          try clear c13
          try clear c13b0
          try clear c14
          try clear c15
          try clear c16
          try clear c16b0
          try clear c22
          try clear c28
          try clear c29
          try clear c30
          try clear c30b0
          try clear c30b1
          try clear c30b2
          try clear p2
          obtain ⟨kq, x80_24, rfl, HA, HJ24, HB⟩ := hcut
          cases kq with
          | zero => exact absurd HA.out (by simp [rotuletlaw02_CastOrder.j1])
          | succ kj24 =>
            have H := HA.out
            clear HA
            simp only [rotuletlaw02_CastOrder.j1] at H
            by_cases c31 : x80_24 = true
            · subst c31
              have H1 : (some false) = some r := by rw [if_pos rfl] at H; exact H
              exact absurd (Option.some.inj H1) (by rw [HRT.out]; decide)
            · replace c31 := Bool.eq_false_iff.mpr c31
              subst c31
              have H1 : (if ji4 ≥ 0 then ((cast_Zig.f ji4).bind fun t121 => ((cast_Zig.f ji5).bind fun t122 => (if ((decide (t121 ≤ t122)) != (decide (ji4 ≤ ji5))) = true then (rotuletlaw02_CastOrder.j2 kj24 ji4 true) else (if ji5 < 0 then ((cast_Zig.f ji4).bind fun t123 => ((cast_Zig.f ji5).bind fun t124 => (rotuletlaw02_CastOrder.j2 kj24 ji4 ((decide (t123 ≥ t124)) != (decide (ji4 ≤ ji5)))))) else (rotuletlaw02_CastOrder.j2 kj24 ji4 false))))) else (if ji5 < 0 then ((cast_Zig.f ji4).bind fun t125 => ((cast_Zig.f ji5).bind fun t126 => (rotuletlaw02_CastOrder.j2 kj24 ji4 ((decide (t125 ≥ t126)) != (decide (ji4 ≤ ji5)))))) else (rotuletlaw02_CastOrder.j2 kj24 ji4 false))) = some r := by rw [if_neg (show ¬ (false = true) by decide)] at H; exact H
              clear H
              have H := H1
              clear H1
              have HC32 := Aside0.mk H
              clear H
              go_upto_region 10 with (fail)
              go_cut [108] (fun v108 wc => ∃ (kq : Nat) (x108_31 : Bool), v108 = .bool x108_31 ∧ Aside0 (rotuletlaw02_CastOrder.j2 kq ji4 x108_31 = some r) ∧ Aside0 (kq ≤ kj24) ∧ Aside0 (Below w.heap.size w wc))
              case first =>
                have H := HC32.out
                clear HC32
                by_cases c33 : ji4 ≥ 0
                · rw [if_pos c33] at H
                  have c33b0 : decide (0 ≤ ji4) = true := decide_eq_true c33
                  clear c33
                  (first | rw [c33b0] | (simp only [i64_w, i32_w]; rw [c33b0]) | skip)
                  replace H := Option.bind_eq_some_iff.mp H
                  obtain ⟨t121, A340, H⟩ := H
                  replace H : ((cast_Zig.f ji5).bind fun t122 => (if ((decide (t121 ≤ t122)) != (decide (ji4 ≤ ji5))) = true then (rotuletlaw02_CastOrder.j2 kj24 ji4 true) else (if ji5 < 0 then ((cast_Zig.f ji4).bind fun t123 => ((cast_Zig.f ji5).bind fun t124 => (rotuletlaw02_CastOrder.j2 kj24 ji4 ((decide (t123 ≥ t124)) != (decide (ji4 ≤ ji5)))))) else (rotuletlaw02_CastOrder.j2 kj24 ji4 false)))) = some r := H
                  have A34 := Aside0.mk A340
                  clear A340
                  replace H := Option.bind_eq_some_iff.mp H
                  obtain ⟨t122, A350, H⟩ := H
                  replace H : (if ((decide (t121 ≤ t122)) != (decide (ji4 ≤ ji5))) = true then (rotuletlaw02_CastOrder.j2 kj24 ji4 true) else (if ji5 < 0 then ((cast_Zig.f ji4).bind fun t123 => ((cast_Zig.f ji5).bind fun t124 => (rotuletlaw02_CastOrder.j2 kj24 ji4 ((decide (t123 ≥ t124)) != (decide (ji4 ≤ ji5)))))) else (rotuletlaw02_CastOrder.j2 kj24 ji4 false))) = some r := H
                  have A35 := Aside0.mk A350
                  clear A350
                  by_cases c36 : ((decide (t121 ≤ t122)) != (decide (ji4 ≤ ji5))) = true
                  · rw [if_pos c36] at H
                    have c36b0 : ((decide (t121 ≤ t122)) != (decide (ji4 ≤ ji5))) = true := c36
                    (try (have c36b1 : decide ((decide (t121 ≤ t122)) = (decide (ji4 ≤ ji5))) = false := by simpa using c36))
                    (try (have c36b2 : ((decide (t121 ≤ t122)) == (decide (ji4 ≤ ji5))) = false := by simpa using c36))
                    (try (have c36b3 : ¬ ((decide (t121 ≤ t122)) = (decide (ji4 ≤ ji5))) := by simpa using c36))
                    clear c36
                    have H' := Aside0.mk H
                    clear H
                    go_wp2_with (first | (go_at_call 16; (with_reducible refine (cast_Zig.calls ji4 t121 _ A34.out).mono ?_); rintro e w' ⟨rfl, ⟨nd, rfl⟩⟩) | (go_at_call 16; (with_reducible refine (cast_Zig.calls ji5 t122 _ A35.out).mono ?_); rintro e w' ⟨rfl, ⟨nd, rfl⟩⟩))
                    go_meet
                    case rel => exact ⟨_, (true), (by first | rfl | (simp; done) | (simp [*]; done)), H', ⟨by have := HJ6.out; have := HJ24.out; first | omega | exact Nat.le_refl _⟩, ⟨by repeat (first | (with_reducible first | exact HB.out | apply below_alloc | apply pw_below_drewN | apply below_drew1) | exact HB.out)⟩⟩
                  · rw [if_neg c36] at H
                    have c36b0 : ((decide (t121 ≤ t122)) != (decide (ji4 ≤ ji5))) = false := by simpa using c36
                    (try (have c36b1 : decide ((decide (t121 ≤ t122)) = (decide (ji4 ≤ ji5))) = true := by simpa using c36))
                    (try (have c36b2 : ((decide (t121 ≤ t122)) == (decide (ji4 ≤ ji5))) = true := by simpa using c36))
                    clear c36
                    by_cases c37 : ji5 < 0
                    · rw [if_pos c37] at H
                      have c37b0 : decide (ji5 < 0) = true := decide_eq_true c37
                      clear c37
                      replace H := Option.bind_eq_some_iff.mp H
                      obtain ⟨t123, A380, H⟩ := H
                      replace H : ((cast_Zig.f ji5).bind fun t124 => (rotuletlaw02_CastOrder.j2 kj24 ji4 ((decide (t123 ≥ t124)) != (decide (ji4 ≤ ji5))))) = some r := H
                      have A38 := Aside0.mk A380
                      clear A380
                      obtain rfl : t121 = t123 := Option.some.inj (A34.out.symm.trans A38.out)
                      replace H := Option.bind_eq_some_iff.mp H
                      obtain ⟨t124, A390, H⟩ := H
                      replace H : (rotuletlaw02_CastOrder.j2 kj24 ji4 ((decide (t121 ≥ t124)) != (decide (ji4 ≤ ji5)))) = some r := H
                      have A39 := Aside0.mk A390
                      clear A390
                      obtain rfl : t122 = t124 := Option.some.inj (A35.out.symm.trans A39.out)
                      have H' := Aside0.mk H
                      clear H
                      go_wp2_with (first | (go_at_call 16; (with_reducible refine (cast_Zig.calls ji4 t121 _ A34.out).mono ?_); rintro e w' ⟨rfl, ⟨nd, rfl⟩⟩) | (go_at_call 16; (with_reducible refine (cast_Zig.calls ji5 t122 _ A35.out).mono ?_); rintro e w' ⟨rfl, ⟨nd, rfl⟩⟩) | (go_at_call 16; (with_reducible refine (cast_Zig.calls ji4 t121 _ A38.out).mono ?_); rintro e w' ⟨rfl, ⟨nd, rfl⟩⟩) | (go_at_call 16; (with_reducible refine (cast_Zig.calls ji5 t122 _ A39.out).mono ?_); rintro e w' ⟨rfl, ⟨nd, rfl⟩⟩))
                      go_meet
                      case rel => exact ⟨_, (((decide (t121 ≥ t122)) != (decide (ji4 ≤ ji5)))), (by first | rfl | (simp; done) | (simp only [← hji4, ← hji5] <;> (first | rfl | simp)) | (simp [*]; done)), H', ⟨by have := HJ6.out; have := HJ24.out; first | omega | exact Nat.le_refl _⟩, ⟨by repeat (first | (with_reducible first | exact HB.out | apply below_alloc | apply pw_below_drewN | apply below_drew1) | exact HB.out)⟩⟩
                    · rw [if_neg c37] at H
                      have c37b0 : decide (ji5 < 0) = false := decide_eq_false c37
                      clear c37
                      have H' := Aside0.mk H
                      clear H
                      go_wp2_with (first | (go_at_call 16; (with_reducible refine (cast_Zig.calls ji4 t121 _ A34.out).mono ?_); rintro e w' ⟨rfl, ⟨nd, rfl⟩⟩) | (go_at_call 16; (with_reducible refine (cast_Zig.calls ji5 t122 _ A35.out).mono ?_); rintro e w' ⟨rfl, ⟨nd, rfl⟩⟩))
                      go_meet
                      case rel => exact ⟨_, (false), (by first | rfl | (simp; done) | (simp [*]; done)), H', ⟨by have := HJ6.out; have := HJ24.out; first | omega | exact Nat.le_refl _⟩, ⟨by repeat (first | (with_reducible first | exact HB.out | apply below_alloc | apply pw_below_drewN | apply below_drew1) | exact HB.out)⟩⟩
                · rw [if_neg c33] at H
                  have c33b0 : decide (0 ≤ ji4) = false := decide_eq_false c33
                  clear c33
                  (first | rw [c33b0] | (simp only [i64_w, i32_w]; rw [c33b0]) | skip)
                  by_cases c40 : ji5 < 0
                  · rw [if_pos c40] at H
                    have c40b0 : decide (ji5 < 0) = true := decide_eq_true c40
                    clear c40
                    replace H := Option.bind_eq_some_iff.mp H
                    obtain ⟨t125, A410, H⟩ := H
                    replace H : ((cast_Zig.f ji5).bind fun t126 => (rotuletlaw02_CastOrder.j2 kj24 ji4 ((decide (t125 ≥ t126)) != (decide (ji4 ≤ ji5))))) = some r := H
                    have A41 := Aside0.mk A410
                    clear A410
                    replace H := Option.bind_eq_some_iff.mp H
                    obtain ⟨t126, A420, H⟩ := H
                    replace H : (rotuletlaw02_CastOrder.j2 kj24 ji4 ((decide (t125 ≥ t126)) != (decide (ji4 ≤ ji5)))) = some r := H
                    have A42 := Aside0.mk A420
                    clear A420
                    have H' := Aside0.mk H
                    clear H
                    go_wp2_with (first | (go_at_call 16; (with_reducible refine (cast_Zig.calls ji4 t125 _ A41.out).mono ?_); rintro e w' ⟨rfl, ⟨nd, rfl⟩⟩) | (go_at_call 16; (with_reducible refine (cast_Zig.calls ji5 t126 _ A42.out).mono ?_); rintro e w' ⟨rfl, ⟨nd, rfl⟩⟩))
                    go_meet
                    case rel => exact ⟨_, (((decide (t125 ≥ t126)) != (decide (ji4 ≤ ji5)))), (by first | rfl | (simp; done) | (simp only [← hji4, ← hji5] <;> (first | rfl | simp)) | (simp [*]; done)), H', ⟨by have := HJ6.out; have := HJ24.out; first | omega | exact Nat.le_refl _⟩, ⟨by repeat (first | (with_reducible first | exact HB.out | apply below_alloc | apply pw_below_drewN | apply below_drew1) | exact HB.out)⟩⟩
                  · rw [if_neg c40] at H
                    have c40b0 : decide (ji5 < 0) = false := decide_eq_false c40
                    clear c40
                    have H' := Aside0.mk H
                    clear H
                    go_wp2
                    go_meet
                    case rel => exact ⟨_, (false), (by first | rfl | (simp; done) | (simp [*]; done)), H', ⟨by have := HJ6.out; have := HJ24.out; first | omega | exact Nat.le_refl _⟩, ⟨by repeat (first | (with_reducible first | exact HB.out | apply below_alloc | apply pw_below_drewN | apply below_drew1) | exact HB.out)⟩⟩
              case rest =>
                clear HC32
                try clear c1
                try clear c2
                try clear p2
                try clear c3
                try clear c4
                try clear c10
                try clear c10b0
                try clear c13
                try clear c13b0
                try clear c14
                try clear c15
                try clear c16
                try clear c16b0
                try clear c22
                try clear c28
                try clear c29
                try clear c30
                try clear c30b0
                try clear c30b1
                try clear c30b2
                try clear c31
                try clear c33
                try clear c33b0
                try clear c36
                try clear c36b0
                try clear c36b1
                try clear c36b2
                try clear c37
                try clear c37b0
                try clear c40
                try clear c40b0
                try clear p2
                obtain ⟨kq, x108_31, rfl, HA, HJ31, HB⟩ := hcut
                cases kq with
                | zero => exact absurd HA.out (by simp [rotuletlaw02_CastOrder.j2])
                | succ kj31 =>
                  have H := HA.out
                  clear HA
                  simp only [rotuletlaw02_CastOrder.j2] at H
                  by_cases c43 : x108_31 = true
                  · subst c43
                    have H1 : (some false) = some r := by rw [if_pos rfl] at H; exact H
                    exact absurd (Option.some.inj H1) (by rw [HRT.out]; decide)
                  · replace c43 := Bool.eq_false_iff.mpr c43
                    subst c43
                    have H1 : (if ji4 > (-9223372036854775808) then (if ji4 < 0 then ((cast_Zig.f ji4).bind fun t127 => ((cast_Zig.f (wrap64 (-ji4))).bind fun t128 => (if t127 ≥ t128 then (some false) else ((cast_Zig.f ji4).bind fun t129 => ((cast_Zig.f (wrap64 (-ji4))).bind fun t130 => (if (IntKind.u64.wrap (t129 + 1)) = t130 then ((rotuletlaw02_alive.f).bind fun t131 => (some t131)) else (some false))))))) else ((rotuletlaw02_alive.f).bind fun t132 => (some t132))) else ((rotuletlaw02_alive.f).bind fun t133 => (some t133))) = some r := by rw [if_neg (show ¬ (false = true) by decide)] at H; exact H
                    clear H
                    have H := H1
                    clear H1
                    by_cases c44 : ji4 > (-9223372036854775808)
                    · rw [if_pos c44] at H
                      have c44b0 : decide ((-9223372036854775808) < ji4) = true := decide_eq_true c44
                      clear c44
                      by_cases c45 : ji4 < 0
                      · rw [if_pos c45] at H
                        have c45b0 : decide (ji4 < 0) = true := decide_eq_true c45
                        clear c45
                        replace H := Option.bind_eq_some_iff.mp H
                        obtain ⟨t127, A460, H⟩ := H
                        replace H : ((cast_Zig.f (wrap64 (-ji4))).bind fun t128 => (if t127 ≥ t128 then (some false) else ((cast_Zig.f ji4).bind fun t129 => ((cast_Zig.f (wrap64 (-ji4))).bind fun t130 => (if (IntKind.u64.wrap (t129 + 1)) = t130 then ((rotuletlaw02_alive.f).bind fun t131 => (some t131)) else (some false)))))) = some r := H
                        have A46 := Aside0.mk A460
                        clear A460
                        replace H := Option.bind_eq_some_iff.mp H
                        obtain ⟨t128, A470, H⟩ := H
                        replace H : (if t127 ≥ t128 then (some false) else ((cast_Zig.f ji4).bind fun t129 => ((cast_Zig.f (wrap64 (-ji4))).bind fun t130 => (if (IntKind.u64.wrap (t129 + 1)) = t130 then ((rotuletlaw02_alive.f).bind fun t131 => (some t131)) else (some false))))) = some r := H
                        have A47 := Aside0.mk A470
                        clear A470
                        by_cases c48 : t127 ≥ t128
                        · rw [if_pos c48] at H
                          exact absurd (Option.some.inj H) (by rw [HRT.out]; decide)
                        · rw [if_neg c48] at H
                          have c48b0 : decide (t128 ≤ t127) = false := decide_eq_false c48
                          clear c48
                          replace H := Option.bind_eq_some_iff.mp H
                          obtain ⟨t129, A490, H⟩ := H
                          replace H : ((cast_Zig.f (wrap64 (-ji4))).bind fun t130 => (if (IntKind.u64.wrap (t129 + 1)) = t130 then ((rotuletlaw02_alive.f).bind fun t131 => (some t131)) else (some false))) = some r := H
                          have A49 := Aside0.mk A490
                          clear A490
                          obtain rfl : t127 = t129 := Option.some.inj (A46.out.symm.trans A49.out)
                          replace H := Option.bind_eq_some_iff.mp H
                          obtain ⟨t130, A500, H⟩ := H
                          replace H : (if (IntKind.u64.wrap (t127 + 1)) = t130 then ((rotuletlaw02_alive.f).bind fun t131 => (some t131)) else (some false)) = some r := H
                          have A50 := Aside0.mk A500
                          clear A500
                          obtain rfl : t128 = t130 := Option.some.inj (A47.out.symm.trans A50.out)
                          by_cases c51 : (IntKind.u64.wrap (t127 + 1)) = t128
                          · rw [if_pos c51] at H
                            have c51b0 : ((IntKind.u64.wrap (t127 + 1)) == t128) = true := beq_iff_eq.mpr c51
                            have c51b1 : ((IntKind.u64.wrap (t127 + 1)) != t128) = false := bne_eq_false_iff_eq.mpr c51
                            clear c51
                            replace H := Option.bind_eq_some_iff.mp H
                            obtain ⟨t131, A520, H⟩ := H
                            replace H : (some t131) = some r := H
                            have A52 := Aside0.mk A520
                            clear A520
                            obtain rfl := Option.some.inj H
                            go_wp2_with (first | (go_at_call 16; (with_reducible refine (cast_Zig.calls ji4 t127 _ A46.out).mono ?_); rintro e w' ⟨rfl, ⟨nd, rfl⟩⟩) | (go_at_call 16; (with_reducible refine (cast_Zig.calls (wrap64 (-ji4)) t128 _ A47.out).mono ?_); rintro e w' ⟨rfl, ⟨nd, rfl⟩⟩) | (go_at_call 16; (with_reducible refine (cast_Zig.calls ji4 t127 _ A49.out).mono ?_); rintro e w' ⟨rfl, ⟨nd, rfl⟩⟩) | (go_at_call 16; (with_reducible refine (cast_Zig.calls (wrap64 (-ji4)) t128 _ A50.out).mono ?_); rintro e w' ⟨rfl, ⟨nd, rfl⟩⟩) | ((with_reducible refine gate_callee (f := 12) rfl ?_); refine goesL_ (some 132) rfl rfl Try.func12 (by kernel_rfl) rfl #[] rfl (by (try simp only [List.map_toArray, List.map_cons, List.map_nil]); first | done | rfl | (simp only [List.length_drop, List.length_take]; rfl)) ?_; (with_reducible refine (rotuletlaw02_alive.calls  t131 _ A52.out).mono ?_); rintro e w53 ⟨rfl, hb⟩; refine ⟨_, rfl, ?_⟩; have n0_ := Aside0.mk (below_step (by repeat (first | (with_reducible first | exact HB.out | apply below_alloc | apply pw_below_drewN | apply below_drew1) | exact HB.out)) hb); clear HB; have HB := n0_; clear n0_; (try clear hb); (try clear hb2); (try clear hk); (try clear hi)))
                            go_ret
                            exact ⟨by first | rfl | (simp [errW_none, errW_some] <;> rfl) | (simp only [← hji4, ← hji5]; first | rfl | (simp [errW_none, errW_some] <;> rfl)) | (simp [*, errW_none, errW_some] <;> rfl), by repeat (first | (with_reducible first | exact HB.out | apply below_alloc | apply pw_below_drewN | apply below_drew1) | exact HB.out)⟩
                          · rw [if_neg c51] at H
                            exact absurd (Option.some.inj H) (by rw [HRT.out]; decide)
                      · rw [if_neg c45] at H
                        have c45b0 : decide (ji4 < 0) = false := decide_eq_false c45
                        clear c45
                        replace H := Option.bind_eq_some_iff.mp H
                        obtain ⟨t132, A540, H⟩ := H
                        replace H : (some t132) = some r := H
                        have A54 := Aside0.mk A540
                        clear A540
                        obtain rfl := Option.some.inj H
                        go_wp2_with (first | ((with_reducible refine gate_callee (f := 12) rfl ?_); refine goesL_ (some 132) rfl rfl Try.func12 (by kernel_rfl) rfl #[] rfl (by (try simp only [List.map_toArray, List.map_cons, List.map_nil]); first | done | rfl | (simp only [List.length_drop, List.length_take]; rfl)) ?_; (with_reducible refine (rotuletlaw02_alive.calls  t132 _ A54.out).mono ?_); rintro e w55 ⟨rfl, hb⟩; refine ⟨_, rfl, ?_⟩; have n0_ := Aside0.mk (below_step (by repeat (first | (with_reducible first | exact HB.out | apply below_alloc | apply pw_below_drewN | apply below_drew1) | exact HB.out)) hb); clear HB; have HB := n0_; clear n0_; (try clear hb); (try clear hb2); (try clear hk); (try clear hi)))
                        go_ret
                        exact ⟨by first | rfl | (simp [errW_none, errW_some] <;> rfl) | (simp only [← hji4, ← hji5]; first | rfl | (simp [errW_none, errW_some] <;> rfl)) | (simp [*, errW_none, errW_some] <;> rfl), by repeat (first | (with_reducible first | exact HB.out | apply below_alloc | apply pw_below_drewN | apply below_drew1) | exact HB.out)⟩
                    · rw [if_neg c44] at H
                      have c44b0 : decide ((-9223372036854775808) < ji4) = false := decide_eq_false c44
                      clear c44
                      replace H := Option.bind_eq_some_iff.mp H
                      obtain ⟨t133, A560, H⟩ := H
                      replace H : (some t133) = some r := H
                      have A56 := Aside0.mk A560
                      clear A560
                      obtain rfl := Option.some.inj H
                      go_wp2_with (first | ((with_reducible refine gate_callee (f := 12) rfl ?_); refine goesL_ (some 132) rfl rfl Try.func12 (by kernel_rfl) rfl #[] rfl (by (try simp only [List.map_toArray, List.map_cons, List.map_nil]); first | done | rfl | (simp only [List.length_drop, List.length_take]; rfl)) ?_; (with_reducible refine (rotuletlaw02_alive.calls  t133 _ A56.out).mono ?_); rintro e w57 ⟨rfl, hb⟩; refine ⟨_, rfl, ?_⟩; have n0_ := Aside0.mk (below_step (by repeat (first | (with_reducible first | exact HB.out | apply below_alloc | apply pw_below_drewN | apply below_drew1) | exact HB.out)) hb); clear HB; have HB := n0_; clear n0_; (try clear hb); (try clear hb2); (try clear hk); (try clear hi)))
                      go_ret
                      exact ⟨by first | rfl | (simp [errW_none, errW_some] <;> rfl) | (simp only [← hji4, ← hji5]; first | rfl | (simp [errW_none, errW_some] <;> rfl)) | (simp [*, errW_none, errW_some] <;> rfl), by repeat (first | (with_reducible first | exact HB.out | apply below_alloc | apply pw_below_drewN | apply below_drew1) | exact HB.out)⟩

/-- THE ONE PURE STATEMENT of rotuletlaw02_CastOrder: yours. -/
def rotuletlaw02_CastOrder.Pure : Prop := ∀ (a0 : Int) (a1 : Int) (a2 : Int), (Lit.int .i64 a0).wf = true → (Lit.int .i64 a1).wf = true → (Lit.int .i64 a2).wf = true → ∃ k, rotuletlaw02_CastOrder.f k a0 a1 a2 = some true
theorem rotuletlaw02_CastOrder.walk (P : rotuletlaw02_CastOrder.Pure) (a0 : Int) (a1 : Int) (a2 : Int) (w : World) (w0 : (Lit.int .i64 a0).wf = true) (w1 : (Lit.int .i64 a1).wf = true) (w2 : (Lit.int .i64 a2).wf = true) :
    Calls Try.prog 4 #[.int .i64 a0, .int .i64 a1, .int .i64 a2] w fun e w' => e = .returned (.bool true) ∧ Below w.heap.size w w' := by
  obtain ⟨k, h⟩ := P a0 a1 a2 w0 w1 w2
  refine (rotuletlaw02_CastOrder.calls k a0 a1 a2 true rfl w h).mono ?_
  rintro e w' ⟨rfl, hd⟩
  exact ⟨rfl, hd⟩

end Go.Proofs.Ytjenbokdcbppoaa.Fn
