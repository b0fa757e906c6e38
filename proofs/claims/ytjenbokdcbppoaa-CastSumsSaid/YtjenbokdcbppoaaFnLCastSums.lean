/- The functions that the laws of this seat reach, as Lean functions, and for each the proof that the Go code comes to just these answers (lines written by the kit's print for these claims, joined by a program of ours; where a remark says so, by hand). Conditions: none. -/
import Derived.Test.YtjenbokdcbppoaaFn2
namespace Go.Proofs.Ytjenbokdcbppoaa.Fn
open Go.RowKit Go.Proofs.YtjenbokdcbppoaaW.PrintWords Go.Proofs.YtjenbokdcbppoaaW.PrintLast Go.Proofs.YtjenbokdcbppoaaW.PrintMore
attribute [local go_sem] max2_int min2_int max_two min_two max_three min_three max_four min_four   -- for this text's walks alone
set_option linter.unusedVariables false
set_option linter.unusedSimpArgs false
/-! ### rotuletlaw02_CastSums: function 3 -/
def rotuletlaw02_CastSums.f (a0 : Int) (a1 : Int) (a2 : Int) : Option (Bool) := (cast_Wrap.f a0 a2).bind fun t110 => ((cast_Wrap.f a1 a2).bind fun t111 => ((cast_Narrow.f (IntKind.u64.wrap (a0)) a2).bind fun bt112 => ((cast_Narrow.f (IntKind.u64.wrap (t110)) a2).bind fun bt114 => ((rotuletlaw02_alive.f).bind fun t116 => (if t116 = true then ((cast_Wrap.f (wrap64 (t110 + t111)) a2).bind fun t117 => ((cast_Wrap.f (wrap64 (a0 + a1)) a2).bind fun t118 => (if t117 = t118 then ((cast_Wrap.f (wrap64 (t110 - t111)) a2).bind fun t119 => ((cast_Wrap.f (wrap64 (a0 - a1)) a2).bind fun t120 => (if t119 = t120 then ((cast_Wrap.f (wrap64 (t110 * t111)) a2).bind fun t121 => ((cast_Wrap.f (wrap64 (a0 * a1)) a2).bind fun t122 => (if t121 = t122 then (some (bt112.1 == bt114.1)) else (some false)))) else (some false)))) else (some false)))) else (some false))))))
set_option maxHeartbeats 8000000 in
set_option maxRecDepth 100000 in
theorem rotuletlaw02_CastSums.calls (a0 : Int) (a1 : Int) (a2 : Int) (r : Bool) (hrt : r = true) (w : World) (h : rotuletlaw02_CastSums.f a0 a1 a2 = some r) :
    Calls Try.prog 3 #[.int .i64 a0, .int .i64 a1, .int .i64 a2] w fun e w' => e = .returned (.bool r) ∧ Below w.heap.size w w' := by
  have HRT := Aside0.mk hrt
  clear hrt
  have HB := Aside0.mk (Below.refl w.heap.size w)
  have H : ((cast_Wrap.f a0 a2).bind fun t110 => ((cast_Wrap.f a1 a2).bind fun t111 => ((cast_Narrow.f (IntKind.u64.wrap (a0)) a2).bind fun bt112 => ((cast_Narrow.f (IntKind.u64.wrap (t110)) a2).bind fun bt114 => ((rotuletlaw02_alive.f).bind fun t116 => (if t116 = true then ((cast_Wrap.f (wrap64 (t110 + t111)) a2).bind fun t117 => ((cast_Wrap.f (wrap64 (a0 + a1)) a2).bind fun t118 => (if t117 = t118 then ((cast_Wrap.f (wrap64 (t110 - t111)) a2).bind fun t119 => ((cast_Wrap.f (wrap64 (a0 - a1)) a2).bind fun t120 => (if t119 = t120 then ((cast_Wrap.f (wrap64 (t110 * t111)) a2).bind fun t121 => ((cast_Wrap.f (wrap64 (a0 * a1)) a2).bind fun t122 => (if t121 = t122 then (some (bt112.1 == bt114.1)) else (some false)))) else (some false)))) else (some false)))) else (some false))))))) = some r := h
  clear h
  replace H := Option.bind_eq_some_iff.mp H
  obtain ⟨t110, A40, H⟩ := H
  replace H : ((cast_Wrap.f a1 a2).bind fun t111 => ((cast_Narrow.f (IntKind.u64.wrap (a0)) a2).bind fun bt112 => ((cast_Narrow.f (IntKind.u64.wrap (t110)) a2).bind fun bt114 => ((rotuletlaw02_alive.f).bind fun t116 => (if t116 = true then ((cast_Wrap.f (wrap64 (t110 + t111)) a2).bind fun t117 => ((cast_Wrap.f (wrap64 (a0 + a1)) a2).bind fun t118 => (if t117 = t118 then ((cast_Wrap.f (wrap64 (t110 - t111)) a2).bind fun t119 => ((cast_Wrap.f (wrap64 (a0 - a1)) a2).bind fun t120 => (if t119 = t120 then ((cast_Wrap.f (wrap64 (t110 * t111)) a2).bind fun t121 => ((cast_Wrap.f (wrap64 (a0 * a1)) a2).bind fun t122 => (if t121 = t122 then (some (bt112.1 == bt114.1)) else (some false)))) else (some false)))) else (some false)))) else (some false)))))) = some r := H
  have A4 := Aside0.mk A40
  clear A40
  replace H := Option.bind_eq_some_iff.mp H
  obtain ⟨t111, A50, H⟩ := H
  replace H : ((cast_Narrow.f (IntKind.u64.wrap (a0)) a2).bind fun bt112 => ((cast_Narrow.f (IntKind.u64.wrap (t110)) a2).bind fun bt114 => ((rotuletlaw02_alive.f).bind fun t116 => (if t116 = true then ((cast_Wrap.f (wrap64 (t110 + t111)) a2).bind fun t117 => ((cast_Wrap.f (wrap64 (a0 + a1)) a2).bind fun t118 => (if t117 = t118 then ((cast_Wrap.f (wrap64 (t110 - t111)) a2).bind fun t119 => ((cast_Wrap.f (wrap64 (a0 - a1)) a2).bind fun t120 => (if t119 = t120 then ((cast_Wrap.f (wrap64 (t110 * t111)) a2).bind fun t121 => ((cast_Wrap.f (wrap64 (a0 * a1)) a2).bind fun t122 => (if t121 = t122 then (some (bt112.1 == bt114.1)) else (some false)))) else (some false)))) else (some false)))) else (some false))))) = some r := H
  have A5 := Aside0.mk A50
  clear A50
  replace H := Option.bind_eq_some_iff.mp H
  obtain ⟨⟨t112, t113⟩, A60, H⟩ := H
  replace H : ((cast_Narrow.f (IntKind.u64.wrap (t110)) a2).bind fun bt114 => ((rotuletlaw02_alive.f).bind fun t116 => (if t116 = true then ((cast_Wrap.f (wrap64 (t110 + t111)) a2).bind fun t117 => ((cast_Wrap.f (wrap64 (a0 + a1)) a2).bind fun t118 => (if t117 = t118 then ((cast_Wrap.f (wrap64 (t110 - t111)) a2).bind fun t119 => ((cast_Wrap.f (wrap64 (a0 - a1)) a2).bind fun t120 => (if t119 = t120 then ((cast_Wrap.f (wrap64 (t110 * t111)) a2).bind fun t121 => ((cast_Wrap.f (wrap64 (a0 * a1)) a2).bind fun t122 => (if t121 = t122 then (some (t112 == bt114.1)) else (some false)))) else (some false)))) else (some false)))) else (some false)))) = some r := H
  have A6 := Aside0.mk A60
  clear A60
  replace H := Option.bind_eq_some_iff.mp H
  obtain ⟨⟨t114, t115⟩, A70, H⟩ := H
  replace H : ((rotuletlaw02_alive.f).bind fun t116 => (if t116 = true then ((cast_Wrap.f (wrap64 (t110 + t111)) a2).bind fun t117 => ((cast_Wrap.f (wrap64 (a0 + a1)) a2).bind fun t118 => (if t117 = t118 then ((cast_Wrap.f (wrap64 (t110 - t111)) a2).bind fun t119 => ((cast_Wrap.f (wrap64 (a0 - a1)) a2).bind fun t120 => (if t119 = t120 then ((cast_Wrap.f (wrap64 (t110 * t111)) a2).bind fun t121 => ((cast_Wrap.f (wrap64 (a0 * a1)) a2).bind fun t122 => (if t121 = t122 then (some (t112 == t114)) else (some false)))) else (some false)))) else (some false)))) else (some false))) = some r := H
  have A7 := Aside0.mk A70
  clear A70
  replace H := Option.bind_eq_some_iff.mp H
  obtain ⟨t116, A80, H⟩ := H
  replace H : (if t116 = true then ((cast_Wrap.f (wrap64 (t110 + t111)) a2).bind fun t117 => ((cast_Wrap.f (wrap64 (a0 + a1)) a2).bind fun t118 => (if t117 = t118 then ((cast_Wrap.f (wrap64 (t110 - t111)) a2).bind fun t119 => ((cast_Wrap.f (wrap64 (a0 - a1)) a2).bind fun t120 => (if t119 = t120 then ((cast_Wrap.f (wrap64 (t110 * t111)) a2).bind fun t121 => ((cast_Wrap.f (wrap64 (a0 * a1)) a2).bind fun t122 => (if t121 = t122 then (some (t112 == t114)) else (some false)))) else (some false)))) else (some false)))) else (some false)) = some r := H
  have A8 := Aside0.mk A80
  clear A80
  by_cases c9 : t116 = true
  · subst c9
    have H1 : ((cast_Wrap.f (wrap64 (t110 + t111)) a2).bind fun t117 => ((cast_Wrap.f (wrap64 (a0 + a1)) a2).bind fun t118 => (if t117 = t118 then ((cast_Wrap.f (wrap64 (t110 - t111)) a2).bind fun t119 => ((cast_Wrap.f (wrap64 (a0 - a1)) a2).bind fun t120 => (if t119 = t120 then ((cast_Wrap.f (wrap64 (t110 * t111)) a2).bind fun t121 => ((cast_Wrap.f (wrap64 (a0 * a1)) a2).bind fun t122 => (if t121 = t122 then (some (t112 == t114)) else (some false)))) else (some false)))) else (some false)))) = some r := by rw [if_pos rfl] at H; exact H
    clear H
    have H := H1
    clear H1
    replace H := Option.bind_eq_some_iff.mp H
    obtain ⟨t117, A100, H⟩ := H
    replace H : ((cast_Wrap.f (wrap64 (a0 + a1)) a2).bind fun t118 => (if t117 = t118 then ((cast_Wrap.f (wrap64 (t110 - t111)) a2).bind fun t119 => ((cast_Wrap.f (wrap64 (a0 - a1)) a2).bind fun t120 => (if t119 = t120 then ((cast_Wrap.f (wrap64 (t110 * t111)) a2).bind fun t121 => ((cast_Wrap.f (wrap64 (a0 * a1)) a2).bind fun t122 => (if t121 = t122 then (some (t112 == t114)) else (some false)))) else (some false)))) else (some false))) = some r := H
    have A10 := Aside0.mk A100
    clear A100
    replace H := Option.bind_eq_some_iff.mp H
    obtain ⟨t118, A110, H⟩ := H
    replace H : (if t117 = t118 then ((cast_Wrap.f (wrap64 (t110 - t111)) a2).bind fun t119 => ((cast_Wrap.f (wrap64 (a0 - a1)) a2).bind fun t120 => (if t119 = t120 then ((cast_Wrap.f (wrap64 (t110 * t111)) a2).bind fun t121 => ((cast_Wrap.f (wrap64 (a0 * a1)) a2).bind fun t122 => (if t121 = t122 then (some (t112 == t114)) else (some false)))) else (some false)))) else (some false)) = some r := H
    have A11 := Aside0.mk A110
    clear A110
    by_cases c12 : t117 = t118
    · rw [if_pos c12] at H
      have c12b0 : (t117 == t118) = true := beq_iff_eq.mpr c12
      have c12b1 : (t117 != t118) = false := bne_eq_false_iff_eq.mpr c12
      clear c12
      replace H := Option.bind_eq_some_iff.mp H
      obtain ⟨t119, A130, H⟩ := H
      replace H : ((cast_Wrap.f (wrap64 (a0 - a1)) a2).bind fun t120 => (if t119 = t120 then ((cast_Wrap.f (wrap64 (t110 * t111)) a2).bind fun t121 => ((cast_Wrap.f (wrap64 (a0 * a1)) a2).bind fun t122 => (if t121 = t122 then (some (t112 == t114)) else (some false)))) else (some false))) = some r := H
      have A13 := Aside0.mk A130
      clear A130
      replace H := Option.bind_eq_some_iff.mp H
      obtain ⟨t120, A140, H⟩ := H
      replace H : (if t119 = t120 then ((cast_Wrap.f (wrap64 (t110 * t111)) a2).bind fun t121 => ((cast_Wrap.f (wrap64 (a0 * a1)) a2).bind fun t122 => (if t121 = t122 then (some (t112 == t114)) else (some false)))) else (some false)) = some r := H
      have A14 := Aside0.mk A140
      clear A140
      by_cases c15 : t119 = t120
      · rw [if_pos c15] at H
        have c15b0 : (t119 == t120) = true := beq_iff_eq.mpr c15
        have c15b1 : (t119 != t120) = false := bne_eq_false_iff_eq.mpr c15
        clear c15
        replace H := Option.bind_eq_some_iff.mp H
        obtain ⟨t121, A160, H⟩ := H
        replace H : ((cast_Wrap.f (wrap64 (a0 * a1)) a2).bind fun t122 => (if t121 = t122 then (some (t112 == t114)) else (some false))) = some r := H
        have A16 := Aside0.mk A160
        clear A160
        replace H := Option.bind_eq_some_iff.mp H
        obtain ⟨t122, A170, H⟩ := H
        replace H : (if t121 = t122 then (some (t112 == t114)) else (some false)) = some r := H
        have A17 := Aside0.mk A170
        clear A170
        by_cases c18 : t121 = t122
        · rw [if_pos c18] at H
          have c18b0 : (t121 == t122) = true := beq_iff_eq.mpr c18
          have c18b1 : (t121 != t122) = false := bne_eq_false_iff_eq.mpr c18
          clear c18
          obtain rfl := Option.some.inj H
          go_enter Try.func3, Try.ntmps3
          go_wp2_with (first | ((with_reducible refine gate_callee (f := 10) rfl ?_); refine goesL_ (some 15) rfl rfl Try.func10 (by kernel_rfl) rfl #[.int .i64 a0, .int .i64 a2] rfl (by (try simp only [List.map_toArray, List.map_cons, List.map_nil]); first | done | rfl | (simp only [List.length_drop, List.length_take]; rfl)) ?_; (with_reducible refine (cast_Wrap.calls a0 a2 t110 _ A4.out).mono ?_); rintro e w19 ⟨rfl, hb⟩; refine ⟨_, rfl, ?_⟩; have n0_ := Aside0.mk (below_step (by repeat (first | (with_reducible first | exact HB.out | apply below_alloc | apply pw_below_drewN | apply below_drew1) | exact HB.out)) hb); clear HB; have HB := n0_; clear n0_; (try clear hb); (try clear hb2); (try clear hk); (try clear hi)) | ((with_reducible refine gate_callee (f := 10) rfl ?_); refine goesL_ (some 18) rfl rfl Try.func10 (by kernel_rfl) rfl #[.int .i64 a1, .int .i64 a2] rfl (by (try simp only [List.map_toArray, List.map_cons, List.map_nil]); first | done | rfl | (simp only [List.length_drop, List.length_take]; rfl)) ?_; (with_reducible refine (cast_Wrap.calls a1 a2 t111 _ A5.out).mono ?_); rintro e w20 ⟨rfl, hb⟩; refine ⟨_, rfl, ?_⟩; have n0_ := Aside0.mk (below_step (by repeat (first | (with_reducible first | exact HB.out | apply below_alloc | apply pw_below_drewN | apply below_drew1) | exact HB.out)) hb); clear HB; have HB := n0_; clear n0_; (try clear hb); (try clear hb2); (try clear hk); (try clear hi)) | ((with_reducible refine gate_callee (f := 11) rfl ?_); refine goesL_ (some 23) rfl rfl Try.func11 (by kernel_rfl) rfl #[.int .u64 (IntKind.u64.wrap (a0)), .int .i64 a2] rfl (by (try simp only [List.map_toArray, List.map_cons, List.map_nil]); first | done | rfl | (simp only [List.length_drop, List.length_take]; rfl)) ?_; (with_reducible refine (cast_Narrow.calls (IntKind.u64.wrap (a0)) a2 t112 t113 _ A6.out).mono ?_); rintro e w21 ⟨rfl, hb⟩; refine ⟨_, rfl, ?_⟩; have n0_ := Aside0.mk (below_step (by repeat (first | (with_reducible first | exact HB.out | apply below_alloc | apply pw_below_drewN | apply below_drew1) | exact HB.out)) hb); clear HB; have HB := n0_; clear n0_; (try clear hb); (try clear hb2); (try clear hk); (try clear hi)) | ((with_reducible refine gate_callee (f := 11) rfl ?_); refine goesL_ (some 30) rfl rfl Try.func11 (by kernel_rfl) rfl #[.int .u64 (IntKind.u64.wrap (t110)), .int .i64 a2] rfl (by (try simp only [List.map_toArray, List.map_cons, List.map_nil]); first | done | rfl | (simp only [List.length_drop, List.length_take]; rfl)) ?_; (with_reducible refine (cast_Narrow.calls (IntKind.u64.wrap (t110)) a2 t114 t115 _ A7.out).mono ?_); rintro e w22 ⟨rfl, hb⟩; refine ⟨_, rfl, ?_⟩; have n0_ := Aside0.mk (below_step (by repeat (first | (with_reducible first | exact HB.out | apply below_alloc | apply pw_below_drewN | apply below_drew1) | exact HB.out)) hb); clear HB; have HB := n0_; clear n0_; (try clear hb); (try clear hb2); (try clear hk); (try clear hi)) | ((with_reducible refine gate_callee (f := 12) rfl ?_); refine goesL_ (some 33) rfl rfl Try.func12 (by kernel_rfl) rfl #[] rfl (by (try simp only [List.map_toArray, List.map_cons, List.map_nil]); first | done | rfl | (simp only [List.length_drop, List.length_take]; rfl)) ?_; (with_reducible refine (rotuletlaw02_alive.calls  true _ A8.out).mono ?_); rintro e w23 ⟨rfl, hb⟩; refine ⟨_, rfl, ?_⟩; have n0_ := Aside0.mk (below_step (by repeat (first | (with_reducible first | exact HB.out | apply below_alloc | apply pw_below_drewN | apply below_drew1) | exact HB.out)) hb); clear HB; have HB := n0_; clear n0_; (try clear hb); (try clear hb2); (try clear hk); (try clear hi)) | (go_at_call 10; (with_reducible refine (cast_Wrap.calls (wrap64 (t110 + t111)) a2 t117 _ A10.out).mono ?_); rintro e w24 ⟨rfl, hb⟩; have n0_ := Aside0.mk (below_step (by repeat (first | (with_reducible first | exact HB.out | apply below_alloc | apply pw_below_drewN | apply below_drew1) | exact HB.out)) hb); clear HB; have HB := n0_; clear n0_; (try clear hb); (try clear hb2); (try clear hk); (try clear hi)) | (go_at_call 10; (with_reducible refine (cast_Wrap.calls (wrap64 (a0 + a1)) a2 t118 _ A11.out).mono ?_); rintro e w25 ⟨rfl, hb⟩; have n0_ := Aside0.mk (below_step (by repeat (first | (with_reducible first | exact HB.out | apply below_alloc | apply pw_below_drewN | apply below_drew1) | exact HB.out)) hb); clear HB; have HB := n0_; clear n0_; (try clear hb); (try clear hb2); (try clear hk); (try clear hi)) | (go_at_call 10; (with_reducible refine (cast_Wrap.calls (wrap64 (t110 - t111)) a2 t119 _ A13.out).mono ?_); rintro e w26 ⟨rfl, hb⟩; have n0_ := Aside0.mk (below_step (by repeat (first | (with_reducible first | exact HB.out | apply below_alloc | apply pw_below_drewN | apply below_drew1) | exact HB.out)) hb); clear HB; have HB := n0_; clear n0_; (try clear hb); (try clear hb2); (try clear hk); (try clear hi)) | (go_at_call 10; (with_reducible refine (cast_Wrap.calls (wrap64 (a0 - a1)) a2 t120 _ A14.out).mono ?_); rintro e w27 ⟨rfl, hb⟩; have n0_ := Aside0.mk (below_step (by repeat (first | (with_reducible first | exact HB.out | apply below_alloc | apply pw_below_drewN | apply below_drew1) | exact HB.out)) hb); clear HB; have HB := n0_; clear n0_; (try clear hb); (try clear hb2); (try clear hk); (try clear hi)) | (go_at_call 10; (with_reducible refine (cast_Wrap.calls (wrap64 (t110 * t111)) a2 t121 _ A16.out).mono ?_); rintro e w28 ⟨rfl, hb⟩; have n0_ := Aside0.mk (below_step (by repeat (first | (with_reducible first | exact HB.out | apply below_alloc | apply pw_below_drewN | apply below_drew1) | exact HB.out)) hb); clear HB; have HB := n0_; clear n0_; (try clear hb); (try clear hb2); (try clear hk); (try clear hi)) | (go_at_call 10; (with_reducible refine (cast_Wrap.calls (wrap64 (a0 * a1)) a2 t122 _ A17.out).mono ?_); rintro e w29 ⟨rfl, hb⟩; have n0_ := Aside0.mk (below_step (by repeat (first | (with_reducible first | exact HB.out | apply below_alloc | apply pw_below_drewN | apply below_drew1) | exact HB.out)) hb); clear HB; have HB := n0_; clear n0_; (try clear hb); (try clear hb2); (try clear hk); (try clear hi)))
          go_ret
          exact ⟨by first | rfl | (simp [errW_none, errW_some] <;> rfl) | (simp [*, errW_none, errW_some] <;> rfl), by repeat (first | (with_reducible first | exact HB.out | apply below_alloc | apply pw_below_drewN | apply below_drew1) | exact HB.out)⟩
        · rw [if_neg c18] at H
          exact absurd (Option.some.inj H) (by rw [HRT.out]; decide)
      · rw [if_neg c15] at H
        exact absurd (Option.some.inj H) (by rw [HRT.out]; decide)
    · rw [if_neg c12] at H
      exact absurd (Option.some.inj H) (by rw [HRT.out]; decide)
  · replace c9 := Bool.eq_false_iff.mpr c9
    subst c9
    have H1 : (some false) = some r := by rw [if_neg (show ¬ (false = true) by decide)] at H; exact H
    exact absurd (Option.some.inj H1) (by rw [HRT.out]; decide)
/-- THE ONE PURE STATEMENT of rotuletlaw02_CastSums: yours. -/
def rotuletlaw02_CastSums.Pure : Prop := ∀ (a0 : Int) (a1 : Int) (a2 : Int), (Lit.int .i64 a0).wf = true → (Lit.int .i64 a1).wf = true → (Lit.int .i64 a2).wf = true → rotuletlaw02_CastSums.f a0 a1 a2 = some true
theorem rotuletlaw02_CastSums.walk (P : rotuletlaw02_CastSums.Pure) (a0 : Int) (a1 : Int) (a2 : Int) (w : World) (w0 : (Lit.int .i64 a0).wf = true) (w1 : (Lit.int .i64 a1).wf = true) (w2 : (Lit.int .i64 a2).wf = true) :
    Calls Try.prog 3 #[.int .i64 a0, .int .i64 a1, .int .i64 a2] w fun e w' => e = .returned (.bool true) ∧ Below w.heap.size w w' := by
  have h := P a0 a1 a2 w0 w1 w2
  refine (rotuletlaw02_CastSums.calls a0 a1 a2 true rfl w h).mono ?_
  rintro e w' ⟨rfl, hd⟩
  exact ⟨rfl, hd⟩

end Go.Proofs.Ytjenbokdcbppoaa.Fn
