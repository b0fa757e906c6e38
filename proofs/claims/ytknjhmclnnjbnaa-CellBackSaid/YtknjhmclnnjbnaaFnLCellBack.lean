/- The walk of the law CellBack, by hand: where its calls come to what the premises of the theorem name, it answers true. -/
import Derived.Test.YtknjhmclnnjbnaaDe2
import Derived.Test.YtknjhmclnnjbnaaFn4
namespace Go.Proofs.Ytknjhmclnnjbnaa.Fn
open Go.RowKit Go.Proofs.YtknjhmclnnjbnaaW.PrintWords Go.Proofs.YtknjhmclnnjbnaaW.PrintLast Go.Proofs.YtknjhmclnnjbnaaW.PrintMore
attribute [local go_sem] max2_int min2_int max_two min_two max_three min_three max_four min_four
set_option linter.unusedVariables false
set_option linter.unusedSimpArgs false
/-- What the calls of the law come to. -/
structure BackFacts (k : Nat) (kind : Int) (l1 : List Int) (l2 : List S41) (b : List Int) : Prop where
  dec : ∃ zk zd zb g, cell_Decode.f k b = some (zk, zd, zb, g) ∧ (g = 0 → cell_Encode.f k zk zd zb = some (b, 0) ∧ cell_Right.f zk zd zb = some true)
  enc : ∃ x e, cell_Encode.f k kind l1 l2 = some (x, e) ∧ (e = 0 ∨ (e = 71 ∧ cell_Right.f kind l1 l2 = some false)) ∧
    (e = 0 → 0 < x.length ∧ x.length ≤ 10000 ∧ cell_Decode.f k x = some (kind, l1, l2, 0) ∧ (∃ a c d, cell_Decode.f k (x.take (x.length - 1)) = some (a, c, d, 71)) ∧ (∃ a c d, cell_Decode.f k (x ++ [0]) = some (a, c, d, 71)) ∧ cell_Same.f k kind l1 l2 kind l1 l2 = some true)
set_option maxHeartbeats 8000000 in
theorem rotuletlaw07_CellBack.calls (k : Nat) (kind : Int) (A1 : Option Addr) (c1 : Nat) (l1 : List Int) (A2 : Option Addr) (c2 : Nat) (l2 : List S41) (B : Option Addr) (cb : Nat) (b : List Int) (t : Bool) (w : World)
    (hr1 : Kd.C (Kd.int .u8) w A1 l1.length l1) (hc1 : l1.length ≤ c1) (hr2 : Kd.C k41 w A2 l2.length l2) (hc2 : l2.length ≤ c2) (hrb : Kd.C (Kd.int .u8) w B b.length b) (hcb : b.length ≤ cb)
    (hf : rotuletlaw07_Fits.f kind l1 l2 = some t) (hall : t = true → b.length ≤ 400 → BackFacts k kind l1 l2 b) :
    Calls Try.prog 4 #[.agg #[.int .i64 kind, .slice A1 l1.length c1, .slice A2 l2.length c2], .slice B b.length cb] w fun e w' => e = .returned (.bool true) ∧ Below w.heap.size w w' := by
  have hu26 := Try.underlying26
  have HB0 := below_alloc (Below.refl w.heap.size w) (.cells #[.int .i64 kind, .slice A1 l1.length c1, .slice A2 l2.length c2] 26)
  have BK0 := blk_new w (.cells #[.int .i64 kind, .slice A1 l1.length c1, .slice A2 l2.length c2] 26)
  go_enter Try.func4, Try.ntmps4
  go_wp2_with fail
  go_at_call 7
  refine (rotuletlaw07_Fits.calls kind A1 c1 l1 A2 c2 l2 t _ (Kd.C_alloc hr1 _) hc1 (Kd.C_alloc hr2 _) hc2 hf).mono ?_
  rintro e_ w1 ⟨rfl, hb1⟩
  have HB1 := below_step HB0 hb1
  have BK1 := blk_below BK0 hb1
  clear HB0 BK0 hb1
  cases t with
  | false =>
    go_wp2_with fail
    go_at_call 9
    refine (alive_calls _).mono ?_
    rintro e wq ⟨rfl, hb_⟩
    have HBwq := below_step HB1 hb_
    go_wp2_with fail
    go_ret
    exact ⟨by first | rfl | (simp; done), HBwq⟩
  | true =>
    by_cases c0 : b.length ≤ 400
    · have c0b : decide ((b.length : Int) > 400) = false := decide_eq_false (by omega)
      have c0c : decide ((400 : Int) < (b.length : Int)) = false := decide_eq_false (by omega)
      have c0d : decide (400 < b.length) = false := decide_eq_false (by omega)
      obtain ⟨⟨zk, zd, zb, g, hdec, hz⟩, ⟨x, e, henc, he, hok⟩⟩ := hall rfl c0
      clear hall
      go_wp2_with fail
      go_at_call 10
      refine (cell_Decode.calls k B cb b (by omega) zk zd zb g _ (Kd.C_below hrb HB1) hcb hdec).mono ?_
      rintro e_ w2 ⟨v1, v2, rfl, R1, R2, hb_⟩
      obtain ⟨Az, cz, rfl⟩ := Kd.R_slice R1
      obtain ⟨Bz, dz, rfl⟩ := Kd.R_slice R2
      have Cz := Kd.C_alloc (Kd.R_reads' R1).2.2 (.cells #[.int .i64 zk, .slice Az zd.length cz, .slice Bz zb.length dz] 26)
      have czz := (Kd.R_reads' R1).2.1
      have Dz := Kd.C_alloc (Kd.R_reads' R2).2.2 (.cells #[.int .i64 zk, .slice Az zd.length cz, .slice Bz zb.length dz] 26)
      have dzz := (Kd.R_reads' R2).2.1
      have HB2 := below_alloc (below_step HB1 hb_) (.cells #[.int .i64 zk, .slice Az zd.length cz, .slice Bz zb.length dz] 26)
      have BK2 := blk_alloc (blk_below BK1 hb_) (.cells #[.int .i64 zk, .slice Az zd.length cz, .slice Bz zb.length dz] 26)
      have BZ2 := blk_new w2 (.cells #[.int .i64 zk, .slice Az zd.length cz, .slice Bz zb.length dz] 26)
      clear hb_ R1 R2 HB1 BK1
      by_cases g0 : g = 0
      · obtain ⟨hze, hzr⟩ := hz g0
        subst g0
        clear hz
        go_wp2_with fail
        go_at_call 8
        refine (cell_Encode.calls k zk Az cz zd Bz dz zb b 0 _ Cz czz Dz dzz hze).mono ?_
        rintro e_ w3 ⟨vW, rfl, RW, hb_⟩
        obtain ⟨AW, cW, rfl⟩ := Kd.R_slice RW
        have HB3 := below_step HB2 hb_
        have BK3 := blk_below BK2 hb_
        have BZ3 := blk_below BZ2 hb_
        replace Cz := Kd.C_below Cz hb_
        replace Dz := Kd.C_below Dz hb_
        clear hb_ HB2 BK2 BZ2
        have cv1 := Kd.C_string (P := Try.prog) (A := AW) (c := cW) Try.underlying23 Try.underlying5 Try.underlying9 (Kd.R_reads' RW).2.2
        have cv2 := Kd.C_string (P := Try.prog) (A := B) (c := cb) Try.underlying23 Try.underlying5 Try.underlying9 (Kd.C_below hrb HB3)
        have wz0 := (blk_cell BZ3 0).trans rfl
        have wz1 := (blk_cell BZ3 1).trans rfl
        have wz2 := (blk_cell BZ3 2).trans rfl
        go_wp2_with fail
        go_at_call 11
        refine (cell_Right.calls zk Az cz zd Bz dz zb true _ Cz czz Dz dzz hzr).mono ?_
        rintro e_ w3r ⟨rfl, hb_⟩
        have HB3r := below_step HB3 hb_
        have BK3r := blk_below BK3 hb_
        clear hb_ HB3 BK3 BZ3 cv1 cv2 RW wz0 wz1 wz2 Cz Dz
        have cz0 := (blk_cell BK3r 0).trans rfl
        have cz1 := (blk_cell BK3r 1).trans rfl
        have cz2 := (blk_cell BK3r 2).trans rfl
        go_wp2_with fail
        go_at_call 8
        refine (cell_Encode.calls k kind A1 c1 l1 A2 c2 l2 x e _ (Kd.C_below hr1 HB3r) hc1 (Kd.C_below hr2 HB3r) hc2 henc).mono ?_
        rintro e_ w4 ⟨vX, rfl, RX, hb_⟩
        obtain ⟨AX, cX, rfl⟩ := Kd.R_slice RX
        have CX := (Kd.R_reads' RX).2.2
        have cxx := (Kd.R_reads' RX).2.1
        have HB4 := below_step HB3r hb_
        have BK4 := blk_below BK3r hb_
        clear hb_ RX cz0 cz1 cz2 HB3r BK3r
        rcases he with rfl | ⟨rfl, hno⟩
        · obtain ⟨hx0, hx1, hd1, ⟨a2, q2, p2, hd2⟩, ⟨a3, q3, p3, hd3⟩, hsame⟩ := hok rfl
          clear hok
          go_wp2_with fail
          go_at_call 10
          refine (cell_Decode.calls k AX cX x (by omega) kind l1 l2 0 _ CX cxx hd1).mono ?_
          rintro e_ w5 ⟨v1, v2, rfl, R1, R2, hb_⟩
          obtain ⟨Ad, cd, rfl⟩ := Kd.R_slice R1
          obtain ⟨Ab, cb_, rfl⟩ := Kd.R_slice R2
          have Cd := (Kd.R_reads' R1).2.2
          have cdd := (Kd.R_reads' R1).2.1
          have Cb := (Kd.R_reads' R2).2.2
          have cbb := (Kd.R_reads' R2).2.1
          have HB5 := below_alloc (below_step HB4 hb_) (.cells #[.int .i64 kind, .slice Ad l1.length cd, .slice Ab l2.length cb_] 26)
          have BK5 := blk_alloc (blk_below BK4 hb_) (.cells #[.int .i64 kind, .slice Ad l1.length cd, .slice Ab l2.length cb_] 26)
          have BY5 := blk_new w5 (.cells #[.int .i64 kind, .slice Ad l1.length cd, .slice Ab l2.length cb_] 26)
          have CX5 := Kd.C_alloc (Kd.C_below CX hb_) (.cells #[.int .i64 kind, .slice Ad l1.length cd, .slice Ab l2.length cb_] 26)
          replace Cd := Kd.C_alloc Cd (.cells #[.int .i64 kind, .slice Ad l1.length cd, .slice Ab l2.length cb_] 26)
          replace Cb := Kd.C_alloc Cb (.cells #[.int .i64 kind, .slice Ad l1.length cd, .slice Ab l2.length cb_] 26)
          clear hb_ R1 R2 HB4 BK4 CX
          obtain ⟨i5_, hi5, _, hsz5, _⟩ := info_parts info5
          obtain ⟨xz, hxz⟩ : ∃ y : List Int, y = x ++ [0] := ⟨_, rfl⟩
          rw [← hxz] at hd3
          have HXZ := Aside0.mk hxz
          have HXZL := Aside0.mk (show xz.length = x.length + 1 from by rw [hxz, List.length_append]; rfl)
          clear hxz
          obtain ⟨xt, hxt⟩ : ∃ xt, xt = x.take (x.length - 1) := ⟨_, rfl⟩
          have hxl : xt.length = x.length - 1 := by rw [hxt, List.length_take]; omega
          rw [← hxt] at hd2
          have hj : wrap64 ((x.length : Int) - 1) = (xt.length : Int) := by unfold wrap64; omega
          have hj2 : IntKind.i64.wrap ((x.length : Int) - 1) = (xt.length : Int) := (i64_w _).trans hj
          have hct := cut_to (P := Try.prog) 23 5 .i64 Try.underlying23 hi5 AX x.length cX (xt.length : Int) (by omega) (by omega) cxx
          rw [Int.toNat_natCast] at hct
          have k1 : (0 ≤ (xt.length : Int)) = True := eq_true (by omega)
          have k2 : ((xt.length : Int) ≤ (x.length : Int)) = True := eq_true (by omega)
          have CT := Kd.C_take CX5 (m := x.length - 1) (by omega)
          rw [← hxt] at CT
          have HX := Aside0.mk hxt
          have HXL := Aside0.mk hxl
          have HX1 := Aside0.mk hx1
          have HX0 := Aside0.mk hx0
          clear hxt hxl hi5 hsz5 hx1 hx0
          go_wp2_with fail
          go_at_call 10
          refine (cell_Decode.calls k AX cX xt (by have := HXL.out; have := HX1.out; omega) a2 q2 p2 71 _ CT (by have := HXL.out; omega) hd2).mono ?_
          rintro e_ w6 ⟨v1, v2, rfl, R1, R2, hb_⟩
          obtain ⟨A6, c6, rfl⟩ := Kd.R_slice R1
          obtain ⟨B6, d6, rfl⟩ := Kd.R_slice R2
          have hb6 := hb_.alloc hb_.size (.cells #[.int .i64 a2, .slice A6 q2.length c6, .slice B6 p2.length d6] 26)
          clear hb_ R1 R2
          have HB6 := below_step HB5 hb6
          have BK6 := blk_below BK5 hb6
          have BY6 := blk_below BY5 hb6
          have CX6 := Kd.C_below CX5 hb6
          replace Cd := Kd.C_below Cd hb6
          replace Cb := Kd.C_below Cb hb6
          clear hb6 HB5 BK5 BY5 CX5 CT hct k1 k2 hj hj2
          go_wp2_with (first | ((with_reducible refine gate_dst (N := 86) rfl ?_); refine Kd.R_lit (Kd.int .u8) (w0 := (w6.alloc (.cells #[.int .i64 a2, .slice A6 q2.length c6, .slice B6 p2.length d6] 26))) (w6.alloc (.cells #[.int .i64 a2, .slice A6 q2.length c6, .slice B6 p2.length d6] 26)).heap.size 5 ?hg (N := 86) ?hd (xs := ([] : List Int)) (inner := []) (ok := fun _ => True) (okp := fun _ => True) ?hr ?hp (fun _ hk => hk) trivial (Below.refl _ _) (Nat.le_refl _) (by simp) ?_; (case hd => rfl); (case hg => rfl); (case hr => first | (go_simp; done) | (go_simp; rfl)); (case hp => exact Reps.none _ _); intro v86 u1 ho1 hb1 hg_ hnew_; clear hg_ hnew_; have HO1 := Aside0.mk ho1; have HU1 := Aside0.mk hb1; clear ho1 hb1; obtain ⟨A86, c86, e86⟩ := Kd.R_slice HO1.out; subst e86) | ((with_reducible refine gate_builtin (b := .append) (xs := #[.tmp 86, .tmp 87]) rfl ?_); at_builtin; refine Kd.R_append_rows (Kd.int .u8) (w0 := (w6.alloc (.cells #[.int .i64 a2, .slice A6 q2.length c6, .slice B6 p2.length d6] 26))) (w6.alloc (.cells #[.int .i64 a2, .slice A6 q2.length c6, .slice B6 p2.length d6] 26)).heap.size rfl (.tmp 86) (.tmp 87) 23 5 (.int .u8 0) 1 rfl Try.underlying23 info5 rfl (by decide) (by decide) (.slice A86 ([] : List Int).length c86) [] x _ _ _ (fun _ => True) (fun _ => False) rfl rfl ?aO ?aR (fun _ _ h => h) (fun _ h => h.elim) ?aF ?aB ?aS ?aL ?_; (case aR => exact Kd.C_below CX6 HU1.out); (case aB => exact HU1.out); (case aF => exact (fun _ _ => trivial)); (case aO => exact HO1.out); (case aS => exact HU1.out.size); (case aL => have h1_ : ([] : List Int).length = 0 := rfl; rw [h1_, Nat.zero_add, Nat.mul_one]; exact Nat.le_trans HX1.out (by decide)); intro v88 u2 ho hb hg hat; rw [List.nil_append] at ho; have HO2 := Aside0.mk ho; have HU2 := Aside0.mk hb; clear ho hb hg hat HO1 HU1; obtain ⟨A88, c88, e88⟩ := Kd.R_slice HO2.out; subst e88) | ((with_reducible refine gate_dst (N := 89) rfl ?_); refine Kd.R_lit (Kd.int .u8) (w0 := u2) u2.heap.size 5 ?hg (N := 89) ?hd (xs := ([0] : List Int)) (inner := [.int .u8 0]) (ok := fun _ => True) (okp := fun _ => True) ?hr ?hp (fun _ hk => hk) trivial (Below.refl _ _) (Nat.le_refl _) (by simp) ?_; (case hd => rfl); (case hg => rfl); (case hr => first | (go_simp; done) | (go_simp; rfl)); (case hp => exact (Reps.one (show Kd.M (Kd.int .u8) _ _ _ 0 [.int .u8 0] from rfl) (Reps.none _ _))); intro v89 u3 ho3 hb3 hg_ hnew_; clear hg_ hnew_; have HO3 := Aside0.mk ho3; have HU3 := Aside0.mk (below_then HU2.out HU2.out.size hb3); have HO2b := Aside0.mk (Kd.R_below HO2.out hb3); clear ho3 hb3 HO2 HU2; obtain ⟨A89, c89, e89⟩ := Kd.R_slice HO3.out; subst e89) | ((with_reducible refine gate_builtin (b := .append) (xs := #[.tmp 88, .tmp 89]) rfl ?_); at_builtin; refine Kd.R_append_rows (Kd.int .u8) (w0 := (w6.alloc (.cells #[.int .i64 a2, .slice A6 q2.length c6, .slice B6 p2.length d6] 26))) (w6.alloc (.cells #[.int .i64 a2, .slice A6 q2.length c6, .slice B6 p2.length d6] 26)).heap.size rfl (.tmp 88) (.tmp 89) 23 5 (.int .u8 0) 1 rfl Try.underlying23 info5 rfl (by decide) (by decide) (.slice A88 x.length c88) x [0] _ _ _ (fun _ => True) (fun _ => False) rfl rfl ?aO ?aR (fun _ _ h => h) (fun _ h => h.elim) ?aF ?aB ?aS ?aL ?_; (case aR => exact (Kd.R_reads' HO3.out).2.2); (case aB => exact HU3.out); (case aF => exact (fun _ _ => trivial)); (case aO => exact HO2b.out); (case aS => exact HU3.out.size); (case aL => show (x.length + 1) * 1 ≤ _; rw [Nat.mul_one]; exact Nat.le_trans (Nat.add_le_add_right HX1.out 1) (by decide)); intro v90 u4 ho hb hg hat; rw [← HXZ.out] at ho; have HO4 := Aside0.mk ho; have HU4 := Aside0.mk hb; clear ho hb hg hat HO2b HO3 HU3; obtain ⟨A90, c90, e90⟩ := Kd.R_slice HO4.out; subst e90))
          go_at_call 10
          refine (cell_Decode.calls k A90 c90 xz (by rw [HXZL.out]; exact Nat.le_trans (Nat.add_le_add_right HX1.out 1) (by decide)) a3 q3 p3 71 _ (Kd.R_reads' HO4.out).2.2 (Kd.R_reads' HO4.out).2.1 hd3).mono ?_
          rintro e_ w7 ⟨v1, v2, rfl, R1, R2, hb_⟩
          obtain ⟨A7, c7, rfl⟩ := Kd.R_slice R1
          obtain ⟨B7, d7, rfl⟩ := Kd.R_slice R2
          have hb7 := hb_.alloc hb_.size (.cells #[.int .i64 a3, .slice A7 q3.length c7, .slice B7 p3.length d7] 26)
          have hb8 := below_step HU4.out hb7
          clear hb_ hb7 R1 R2 HU4 HO4
          have HB7 := below_step HB6 hb8
          have BK7 := blk_below BK6 hb8
          have BY7 := blk_below BY6 hb8
          replace Cd := Kd.C_below Cd hb8
          replace Cb := Kd.C_below Cb hb8
          clear hb8 HB6 BK6 BY6 CX6
          go_wp2_with fail
          go_at_call 9
          refine (alive_calls _).mono ?_
          rintro e w8 ⟨rfl, hb_⟩
          have HBw8 := below_step HB7 hb_
          have BK7w8 := blk_below BK7 hb_
          have BY7w8 := blk_below BY7 hb_
          replace Cd := Kd.C_below Cd hb_
          replace Cb := Kd.C_below Cb hb_
          have cz0 := (blk_cell BK7w8 0).trans rfl
          have cz1 := (blk_cell BK7w8 1).trans rfl
          have cz2 := (blk_cell BK7w8 2).trans rfl
          have yz0 := (blk_cell BY7w8 0).trans rfl
          have yz1 := (blk_cell BY7w8 1).trans rfl
          have yz2 := (blk_cell BY7w8 2).trans rfl
          go_wp2_with fail
          go_at_call 12
          refine (cell_Same.calls k kind Ad cd l1 Ab cb_ l2 kind A1 c1 l1 A2 c2 l2 true _ Cd cdd Cb cbb (Kd.C_below hr1 HBw8) hc1 (Kd.C_below hr2 HBw8) hc2 hsame).mono ?_
          rintro e_ w9 ⟨rfl, hb9⟩
          go_wp2_with fail
          go_ret
          exact ⟨by first | rfl | (simp; done), below_step HBw8 hb9⟩
        · clear hok
          go_wp2_with fail
          go_at_call 9
          refine (alive_calls _).mono ?_
          rintro e w5 ⟨rfl, hb_⟩
          have HBw5 := below_step HB4 hb_
          have BK4w5 := blk_below BK4 hb_
          have cz0 := (blk_cell BK4w5 0).trans rfl
          have cz1 := (blk_cell BK4w5 1).trans rfl
          have cz2 := (blk_cell BK4w5 2).trans rfl
          go_wp2_with fail
          go_at_call 11
          refine (cell_Right.calls kind A1 c1 l1 A2 c2 l2 false _ (Kd.C_below hr1 HBw5) hc1 (Kd.C_below hr2 HBw5) hc2 hno).mono ?_
          rintro e_ w6 ⟨rfl, hb6⟩
          go_wp2_with fail
          go_ret
          exact ⟨by first | rfl | (simp; done), below_step HBw5 hb6⟩
      · have g0b : (g == 0) = false := beq_eq_false_iff_ne.mpr g0
        have G0 := Aside0.mk g0
        clear g0 hz
        have cz0 := (blk_cell BK2 0).trans rfl
        have cz1 := (blk_cell BK2 1).trans rfl
        have cz2 := (blk_cell BK2 2).trans rfl
        go_wp2_with fail
        go_at_call 8
        refine (cell_Encode.calls k kind A1 c1 l1 A2 c2 l2 x e _ (Kd.C_below hr1 HB2) hc1 (Kd.C_below hr2 HB2) hc2 henc).mono ?_
        rintro e_ w4 ⟨vX, rfl, RX, hb_⟩
        obtain ⟨AX, cX, rfl⟩ := Kd.R_slice RX
        have CX := (Kd.R_reads' RX).2.2
        have cxx := (Kd.R_reads' RX).2.1
        have HB4 := below_step HB2 hb_
        have BK4 := blk_below BK2 hb_
        clear hb_ RX cz0 cz1 cz2 HB2 BK2
        rcases he with rfl | ⟨rfl, hno⟩
        · obtain ⟨hx0, hx1, hd1, ⟨a2, q2, p2, hd2⟩, ⟨a3, q3, p3, hd3⟩, hsame⟩ := hok rfl
          clear hok
          go_wp2_with fail
          go_at_call 10
          refine (cell_Decode.calls k AX cX x (by omega) kind l1 l2 0 _ CX cxx hd1).mono ?_
          rintro e_ w5 ⟨v1, v2, rfl, R1, R2, hb_⟩
          obtain ⟨Ad, cd, rfl⟩ := Kd.R_slice R1
          obtain ⟨Ab, cb_, rfl⟩ := Kd.R_slice R2
          have Cd := (Kd.R_reads' R1).2.2
          have cdd := (Kd.R_reads' R1).2.1
          have Cb := (Kd.R_reads' R2).2.2
          have cbb := (Kd.R_reads' R2).2.1
          have HB5 := below_alloc (below_step HB4 hb_) (.cells #[.int .i64 kind, .slice Ad l1.length cd, .slice Ab l2.length cb_] 26)
          have BK5 := blk_alloc (blk_below BK4 hb_) (.cells #[.int .i64 kind, .slice Ad l1.length cd, .slice Ab l2.length cb_] 26)
          have BY5 := blk_new w5 (.cells #[.int .i64 kind, .slice Ad l1.length cd, .slice Ab l2.length cb_] 26)
          have CX5 := Kd.C_alloc (Kd.C_below CX hb_) (.cells #[.int .i64 kind, .slice Ad l1.length cd, .slice Ab l2.length cb_] 26)
          replace Cd := Kd.C_alloc Cd (.cells #[.int .i64 kind, .slice Ad l1.length cd, .slice Ab l2.length cb_] 26)
          replace Cb := Kd.C_alloc Cb (.cells #[.int .i64 kind, .slice Ad l1.length cd, .slice Ab l2.length cb_] 26)
          clear hb_ R1 R2 HB4 BK4 CX
          obtain ⟨i5_, hi5, _, hsz5, _⟩ := info_parts info5
          obtain ⟨xz, hxz⟩ : ∃ y : List Int, y = x ++ [0] := ⟨_, rfl⟩
          rw [← hxz] at hd3
          have HXZ := Aside0.mk hxz
          have HXZL := Aside0.mk (show xz.length = x.length + 1 from by rw [hxz, List.length_append]; rfl)
          clear hxz
          obtain ⟨xt, hxt⟩ : ∃ xt, xt = x.take (x.length - 1) := ⟨_, rfl⟩
          have hxl : xt.length = x.length - 1 := by rw [hxt, List.length_take]; omega
          rw [← hxt] at hd2
          have hj : wrap64 ((x.length : Int) - 1) = (xt.length : Int) := by unfold wrap64; omega
          have hj2 : IntKind.i64.wrap ((x.length : Int) - 1) = (xt.length : Int) := (i64_w _).trans hj
          have hct := cut_to (P := Try.prog) 23 5 .i64 Try.underlying23 hi5 AX x.length cX (xt.length : Int) (by omega) (by omega) cxx
          rw [Int.toNat_natCast] at hct
          have k1 : (0 ≤ (xt.length : Int)) = True := eq_true (by omega)
          have k2 : ((xt.length : Int) ≤ (x.length : Int)) = True := eq_true (by omega)
          have CT := Kd.C_take CX5 (m := x.length - 1) (by omega)
          rw [← hxt] at CT
          have HX := Aside0.mk hxt
          have HXL := Aside0.mk hxl
          have HX1 := Aside0.mk hx1
          have HX0 := Aside0.mk hx0
          clear hxt hxl hi5 hsz5 hx1 hx0
          go_wp2_with fail
          go_at_call 10
          refine (cell_Decode.calls k AX cX xt (by have := HXL.out; have := HX1.out; omega) a2 q2 p2 71 _ CT (by have := HXL.out; omega) hd2).mono ?_
          rintro e_ w6 ⟨v1, v2, rfl, R1, R2, hb_⟩
          obtain ⟨A6, c6, rfl⟩ := Kd.R_slice R1
          obtain ⟨B6, d6, rfl⟩ := Kd.R_slice R2
          have hb6 := hb_.alloc hb_.size (.cells #[.int .i64 a2, .slice A6 q2.length c6, .slice B6 p2.length d6] 26)
          clear hb_ R1 R2
          have HB6 := below_step HB5 hb6
          have BK6 := blk_below BK5 hb6
          have BY6 := blk_below BY5 hb6
          have CX6 := Kd.C_below CX5 hb6
          replace Cd := Kd.C_below Cd hb6
          replace Cb := Kd.C_below Cb hb6
          clear hb6 HB5 BK5 BY5 CX5 CT hct k1 k2 hj hj2
          go_wp2_with (first | ((with_reducible refine gate_dst (N := 86) rfl ?_); refine Kd.R_lit (Kd.int .u8) (w0 := (w6.alloc (.cells #[.int .i64 a2, .slice A6 q2.length c6, .slice B6 p2.length d6] 26))) (w6.alloc (.cells #[.int .i64 a2, .slice A6 q2.length c6, .slice B6 p2.length d6] 26)).heap.size 5 ?hg (N := 86) ?hd (xs := ([] : List Int)) (inner := []) (ok := fun _ => True) (okp := fun _ => True) ?hr ?hp (fun _ hk => hk) trivial (Below.refl _ _) (Nat.le_refl _) (by simp) ?_; (case hd => rfl); (case hg => rfl); (case hr => first | (go_simp; done) | (go_simp; rfl)); (case hp => exact Reps.none _ _); intro v86 u1 ho1 hb1 hg_ hnew_; clear hg_ hnew_; have HO1 := Aside0.mk ho1; have HU1 := Aside0.mk hb1; clear ho1 hb1; obtain ⟨A86, c86, e86⟩ := Kd.R_slice HO1.out; subst e86) | ((with_reducible refine gate_builtin (b := .append) (xs := #[.tmp 86, .tmp 87]) rfl ?_); at_builtin; refine Kd.R_append_rows (Kd.int .u8) (w0 := (w6.alloc (.cells #[.int .i64 a2, .slice A6 q2.length c6, .slice B6 p2.length d6] 26))) (w6.alloc (.cells #[.int .i64 a2, .slice A6 q2.length c6, .slice B6 p2.length d6] 26)).heap.size rfl (.tmp 86) (.tmp 87) 23 5 (.int .u8 0) 1 rfl Try.underlying23 info5 rfl (by decide) (by decide) (.slice A86 ([] : List Int).length c86) [] x _ _ _ (fun _ => True) (fun _ => False) rfl rfl ?aO ?aR (fun _ _ h => h) (fun _ h => h.elim) ?aF ?aB ?aS ?aL ?_; (case aR => exact Kd.C_below CX6 HU1.out); (case aB => exact HU1.out); (case aF => exact (fun _ _ => trivial)); (case aO => exact HO1.out); (case aS => exact HU1.out.size); (case aL => have h1_ : ([] : List Int).length = 0 := rfl; rw [h1_, Nat.zero_add, Nat.mul_one]; exact Nat.le_trans HX1.out (by decide)); intro v88 u2 ho hb hg hat; rw [List.nil_append] at ho; have HO2 := Aside0.mk ho; have HU2 := Aside0.mk hb; clear ho hb hg hat HO1 HU1; obtain ⟨A88, c88, e88⟩ := Kd.R_slice HO2.out; subst e88) | ((with_reducible refine gate_dst (N := 89) rfl ?_); refine Kd.R_lit (Kd.int .u8) (w0 := u2) u2.heap.size 5 ?hg (N := 89) ?hd (xs := ([0] : List Int)) (inner := [.int .u8 0]) (ok := fun _ => True) (okp := fun _ => True) ?hr ?hp (fun _ hk => hk) trivial (Below.refl _ _) (Nat.le_refl _) (by simp) ?_; (case hd => rfl); (case hg => rfl); (case hr => first | (go_simp; done) | (go_simp; rfl)); (case hp => exact (Reps.one (show Kd.M (Kd.int .u8) _ _ _ 0 [.int .u8 0] from rfl) (Reps.none _ _))); intro v89 u3 ho3 hb3 hg_ hnew_; clear hg_ hnew_; have HO3 := Aside0.mk ho3; have HU3 := Aside0.mk (below_then HU2.out HU2.out.size hb3); have HO2b := Aside0.mk (Kd.R_below HO2.out hb3); clear ho3 hb3 HO2 HU2; obtain ⟨A89, c89, e89⟩ := Kd.R_slice HO3.out; subst e89) | ((with_reducible refine gate_builtin (b := .append) (xs := #[.tmp 88, .tmp 89]) rfl ?_); at_builtin; refine Kd.R_append_rows (Kd.int .u8) (w0 := (w6.alloc (.cells #[.int .i64 a2, .slice A6 q2.length c6, .slice B6 p2.length d6] 26))) (w6.alloc (.cells #[.int .i64 a2, .slice A6 q2.length c6, .slice B6 p2.length d6] 26)).heap.size rfl (.tmp 88) (.tmp 89) 23 5 (.int .u8 0) 1 rfl Try.underlying23 info5 rfl (by decide) (by decide) (.slice A88 x.length c88) x [0] _ _ _ (fun _ => True) (fun _ => False) rfl rfl ?aO ?aR (fun _ _ h => h) (fun _ h => h.elim) ?aF ?aB ?aS ?aL ?_; (case aR => exact (Kd.R_reads' HO3.out).2.2); (case aB => exact HU3.out); (case aF => exact (fun _ _ => trivial)); (case aO => exact HO2b.out); (case aS => exact HU3.out.size); (case aL => show (x.length + 1) * 1 ≤ _; rw [Nat.mul_one]; exact Nat.le_trans (Nat.add_le_add_right HX1.out 1) (by decide)); intro v90 u4 ho hb hg hat; rw [← HXZ.out] at ho; have HO4 := Aside0.mk ho; have HU4 := Aside0.mk hb; clear ho hb hg hat HO2b HO3 HU3; obtain ⟨A90, c90, e90⟩ := Kd.R_slice HO4.out; subst e90))
          go_at_call 10
          refine (cell_Decode.calls k A90 c90 xz (by rw [HXZL.out]; exact Nat.le_trans (Nat.add_le_add_right HX1.out 1) (by decide)) a3 q3 p3 71 _ (Kd.R_reads' HO4.out).2.2 (Kd.R_reads' HO4.out).2.1 hd3).mono ?_
          rintro e_ w7 ⟨v1, v2, rfl, R1, R2, hb_⟩
          obtain ⟨A7, c7, rfl⟩ := Kd.R_slice R1
          obtain ⟨B7, d7, rfl⟩ := Kd.R_slice R2
          have hb7 := hb_.alloc hb_.size (.cells #[.int .i64 a3, .slice A7 q3.length c7, .slice B7 p3.length d7] 26)
          have hb8 := below_step HU4.out hb7
          clear hb_ hb7 R1 R2 HU4 HO4
          have HB7 := below_step HB6 hb8
          have BK7 := blk_below BK6 hb8
          have BY7 := blk_below BY6 hb8
          replace Cd := Kd.C_below Cd hb8
          replace Cb := Kd.C_below Cb hb8
          clear hb8 HB6 BK6 BY6 CX6
          go_wp2_with fail
          go_at_call 9
          refine (alive_calls _).mono ?_
          rintro e w8 ⟨rfl, hb_⟩
          have HBw8 := below_step HB7 hb_
          have BK7w8 := blk_below BK7 hb_
          have BY7w8 := blk_below BY7 hb_
          replace Cd := Kd.C_below Cd hb_
          replace Cb := Kd.C_below Cb hb_
          have cz0 := (blk_cell BK7w8 0).trans rfl
          have cz1 := (blk_cell BK7w8 1).trans rfl
          have cz2 := (blk_cell BK7w8 2).trans rfl
          have yz0 := (blk_cell BY7w8 0).trans rfl
          have yz1 := (blk_cell BY7w8 1).trans rfl
          have yz2 := (blk_cell BY7w8 2).trans rfl
          go_wp2_with fail
          go_at_call 12
          refine (cell_Same.calls k kind Ad cd l1 Ab cb_ l2 kind A1 c1 l1 A2 c2 l2 true _ Cd cdd Cb cbb (Kd.C_below hr1 HBw8) hc1 (Kd.C_below hr2 HBw8) hc2 hsame).mono ?_
          rintro e_ w9 ⟨rfl, hb9⟩
          go_wp2_with fail
          go_ret
          exact ⟨by first | rfl | (simp; done), below_step HBw8 hb9⟩
        · clear hok
          go_wp2_with fail
          go_at_call 9
          refine (alive_calls _).mono ?_
          rintro e w5 ⟨rfl, hb_⟩
          have HBw5 := below_step HB4 hb_
          have BK4w5 := blk_below BK4 hb_
          have cz0 := (blk_cell BK4w5 0).trans rfl
          have cz1 := (blk_cell BK4w5 1).trans rfl
          have cz2 := (blk_cell BK4w5 2).trans rfl
          go_wp2_with fail
          go_at_call 11
          refine (cell_Right.calls kind A1 c1 l1 A2 c2 l2 false _ (Kd.C_below hr1 HBw5) hc1 (Kd.C_below hr2 HBw5) hc2 hno).mono ?_
          rintro e_ w6 ⟨rfl, hb6⟩
          go_wp2_with fail
          go_ret
          exact ⟨by first | rfl | (simp; done), below_step HBw5 hb6⟩
    · have c0b : decide ((b.length : Int) > 400) = true := decide_eq_true (by omega)
      have c0c : decide ((400 : Int) < (b.length : Int)) = true := decide_eq_true (by omega)
      have c0d : decide (400 < b.length) = true := decide_eq_true (by omega)
      clear hall
      go_wp2_with fail
      go_at_call 9
      refine (alive_calls _).mono ?_
      rintro e wq ⟨rfl, hb_⟩
      have HBwq := below_step HB1 hb_
      go_wp2_with fail
      go_ret
      exact ⟨by first | rfl | (simp; done), HBwq⟩
end Go.Proofs.Ytknjhmclnnjbnaa.Fn
