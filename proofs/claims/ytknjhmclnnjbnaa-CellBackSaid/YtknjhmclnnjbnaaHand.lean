/- The walks of layer 7 that the kit's print does not take, by hand: arrays at a variable place, Right's closure over slices.ContainsFunc, Find, Before. Conditions: none. -/
import Derived.Test.YtknjhmclnnjbnaaFn0
import Derived.LoopN
import Derived.Lib.SlBytesConst
namespace Go.Proofs.Ytknjhmclnnjbnaa.Fn
open Go.RowKit Go.Proofs.YtknjhmclnnjbnaaW.PrintWords Go.Proofs.YtknjhmclnnjbnaaW.PrintLast Go.Proofs.YtknjhmclnnjbnaaW.PrintMore
attribute [local go_sem] max2_int min2_int max_two min_two max_three min_three max_four min_four
set_option linter.unusedVariables false
set_option linter.unusedSimpArgs false
/-! ### lasting -/
theorem idx37_0 (a b : Int) (w : World) : (Instr.index 37 (.agg #[.int .u64 a, .int .u64 b]) (.int .i64 0)).run Try.prog w = .ok (.int .u64 a) w := by kernel_rfl
theorem idx37_1 (a b : Int) (w : World) : (Instr.index 37 (.agg #[.int .u64 a, .int .u64 b]) (.int .i64 1)).run Try.prog w = .ok (.int .u64 b) w := by kernel_rfl
def lastingB (a b : Int) : Bool := !(decide (a ≠ 18446744073709551615) && decide (a ≥ 1048576)) && !(decide (b ≠ 18446744073709551615) && decide (b ≥ 1048576)) && !(decide (b ≠ 18446744073709551615) && (decide (a = 18446744073709551615) || decide (b ≥ a)))
theorem cell_lasting.calls (a b : Int) (w : World) :
    Calls Try.prog 23 #[.agg #[.int .u64 a, .int .u64 b]] w fun e w' => e = .returned (.bool (lastingB a b)) ∧ Below w.heap.size w w' := by
  have hu37 := Try.underlying37
  have i0 := idx37_0 a b
  have i1 := idx37_1 a b
  have hn : ∀ x : Int, x = 18446744073709551615 ∨ ¬ x = 18446744073709551615 := fun x => Classical.em _
  have f0 : ∀ x : Int, x = 18446744073709551615 → (x != 18446744073709551615) = false ∧ (x == 18446744073709551615) = true := fun x h => ⟨bne_eq_false_iff_eq.mpr h, beq_iff_eq.mpr h⟩
  have f1 : ∀ x : Int, ¬ x = 18446744073709551615 → (x != 18446744073709551615) = true ∧ (x == 18446744073709551615) = false := fun x h => ⟨bne_iff_ne.mpr h, beq_eq_false_iff_ne.mpr h⟩
  have c0 : ∀ (x y : Int), (decide (y ≤ x) = true ∧ x ≥ y) ∨ (decide (y ≤ x) = false ∧ ¬ x ≥ y) := fun x y => by
    by_cases h : y ≤ x
    · exact Or.inl ⟨decide_eq_true h, h⟩
    · exact Or.inr ⟨decide_eq_false h, h⟩
  rcases hn a with ha | ha
  · obtain ⟨a0, a1⟩ := f0 a ha
    rcases hn b with hb | hb
    · obtain ⟨b0, b1⟩ := f0 b hb
      have hr : lastingB a b = true := by unfold lastingB; simp [ha, hb]
      rw [hr]; clear hr ha hb hn f0 f1 c0
      go_enter Try.func23, Try.ntmps23
      go_wp2
      refine wp_loop_rounds 3 ?_
      rw [rounds_succ]; go_wp2; rw [rounds_succ]; go_wp2; rw [rounds_succ]; go_wp2
      go_ret
      exact ⟨rfl, below_alloc (Below.refl _ _) _⟩
    · obtain ⟨b0, b1⟩ := f1 b hb
      rcases c0 b 1048576 with ⟨d0, d1⟩ | ⟨d0, d1⟩
      · have hr : lastingB a b = false := by unfold lastingB; simp [ha, hb]
        rw [hr]; clear hr ha hb hn f0 f1 c0 d1
        go_enter Try.func23, Try.ntmps23
        go_wp2
        refine wp_loop_rounds 3 ?_
        rw [rounds_succ]; go_wp2; rw [rounds_succ]; go_wp2
        go_ret
        exact ⟨rfl, below_alloc (Below.refl _ _) _⟩
      · have hr : lastingB a b = false := by unfold lastingB; simp [ha, hb]
        rw [hr]; clear hr ha hb hn f0 f1 c0 d1
        go_enter Try.func23, Try.ntmps23
        go_wp2
        refine wp_loop_rounds 3 ?_
        rw [rounds_succ]; go_wp2; rw [rounds_succ]; go_wp2
        go_ret
        exact ⟨rfl, below_alloc (Below.refl _ _) _⟩
  · obtain ⟨a0, a1⟩ := f1 a ha
    rcases c0 a 1048576 with ⟨d0, d1⟩ | ⟨d0, d1⟩
    · have hr : lastingB a b = false := by unfold lastingB; simp [ha, d1]
      rw [hr]; clear hr ha hn f0 f1 c0 d1
      go_enter Try.func23, Try.ntmps23
      go_wp2
      refine wp_loop_rounds 3 ?_
      rw [rounds_succ]; go_wp2
      go_ret
      exact ⟨rfl, below_alloc (Below.refl _ _) _⟩
    · rcases hn b with hb | hb
      · obtain ⟨b0, b1⟩ := f0 b hb
        have hr : lastingB a b = true := by unfold lastingB; simp [ha, hb, d1]
        rw [hr]; clear hr ha hb hn f0 f1 c0 d1
        go_enter Try.func23, Try.ntmps23
        go_wp2
        refine wp_loop_rounds 3 ?_
        rw [rounds_succ]; go_wp2; rw [rounds_succ]; go_wp2; rw [rounds_succ]; go_wp2
        go_ret
        exact ⟨rfl, below_alloc (Below.refl _ _) _⟩
      · obtain ⟨b0, b1⟩ := f1 b hb
        rcases c0 b 1048576 with ⟨e0, e1⟩ | ⟨e0, e1⟩
        · have hr : lastingB a b = false := by unfold lastingB; simp [ha, hb, e1]
          rw [hr]; clear hr ha hb hn f0 f1 c0 d1 e1
          go_enter Try.func23, Try.ntmps23
          go_wp2
          refine wp_loop_rounds 3 ?_
          rw [rounds_succ]; go_wp2; rw [rounds_succ]; go_wp2
          go_ret
          exact ⟨rfl, below_alloc (Below.refl _ _) _⟩
        · rcases c0 b a with ⟨g0, g1⟩ | ⟨g0, g1⟩
          · have hr : lastingB a b = false := by unfold lastingB; simp [ha, hb, d1, e1, g1]
            rw [hr]; clear hr ha hb hn f0 f1 c0 d1 e1 g1
            go_enter Try.func23, Try.ntmps23
            go_wp2
            refine wp_loop_rounds 3 ?_
            rw [rounds_succ]; go_wp2; rw [rounds_succ]; go_wp2
            go_ret
            exact ⟨rfl, below_alloc (Below.refl _ _) _⟩
          · have hr : lastingB a b = true := by unfold lastingB; simp [ha, hb, d1, e1, g1]
            rw [hr]; clear hr ha hb hn f0 f1 c0 d1 e1 g1
            go_enter Try.func23, Try.ntmps23
            go_wp2
            refine wp_loop_rounds 3 ?_
            rw [rounds_succ]; go_wp2; rw [rounds_succ]; go_wp2; rw [rounds_succ]; go_wp2
            go_ret
            exact ⟨rfl, below_alloc (Below.refl _ _) _⟩

/-! ### before -/
def beforeB (a x : Int) : Bool := decide (x = 18446744073709551615) || decide (x < a)
def cell_Before.f (_a0_0 : Int) (_l0_1 : List Int) (l0_2 : List (S41)) (a1 : Int) : Option (Bool) := some (l0_2.all fun x => beforeB a1 x.f1.f0 && beforeB a1 x.f1.f1)
theorem beforeB_not (a1 x : Int) : beforeB a1 x = !(x != 18446744073709551615 && decide (a1 ≤ x)) := by
  unfold beforeB
  by_cases h : x = 18446744073709551615
  · simp [h]
  · by_cases g : a1 ≤ x
    · have : ¬ x < a1 := by omega
      simp [h, g, this]
    · have : x < a1 := by omega
      simp [h, g, this]
theorem tri (a1 x : Int) : ((x != 18446744073709551615) = true ∧ decide (a1 ≤ x) = true) ∨ (x != 18446744073709551615) = false ∨ ((x != 18446744073709551615) = true ∧ decide (a1 ≤ x) = false) := by
  cases h : (x != 18446744073709551615)
  · exact Or.inr (Or.inl rfl)
  · cases g : decide (a1 ≤ x)
    · exact Or.inr (Or.inr ⟨rfl, rfl⟩)
    · exact Or.inl ⟨rfl, rfl⟩
theorem w64i {i : Nat} (h : (i : Int) < 9223372036854775807) : wrap64 ((i : Int) + 1) = ((i + 1 : Nat) : Int) := by unfold wrap64; omega
theorem drop_T41 {l : List S41} {i : Nat} (h : i < l.length) : l.drop i = rd_T41 l (i : Int) :: l.drop (i + 1) := by
  rw [List.drop_eq_getElem_cons h]
  congr 1
  unfold rd_T41
  rw [Int.toNat_natCast, List.getD_eq_getElem?_getD, List.getElem?_eq_getElem h]; rfl
theorem cell_Before.calls (a0_0 : Int) (A0_1 : Option Addr) (c0_1 : Nat) (l0_1 : List Int) (A0_2 : Option Addr) (c0_2 : Nat) (l0_2 : List (S41)) (a1 : Int) (r : Bool) (w : World) (hr0_1 : Kd.C (Kd.int .u8) w A0_1 l0_1.length l0_1) (hc0_1 : l0_1.length ≤ c0_1) (hr0_2 : Kd.C k41 w A0_2 l0_2.length l0_2) (hc0_2 : l0_2.length ≤ c0_2) (h : cell_Before.f a0_0 l0_1 l0_2 a1 = some r) :
    Calls Try.prog 15 #[.agg #[.int .i64 a0_0, .slice A0_1 l0_1.length c0_1, .slice A0_2 l0_2.length c0_2], .int .u64 a1] w fun e w' => e = .returned (.bool r) ∧ Below w.heap.size w w' := by
  have hu26 := Try.underlying26
  have hu37 := Try.underlying37
  have hu41 := Try.underlying41
  have HR := Aside0.mk hr0_2
  clear hr0_1 hc0_1 hr0_2 hc0_2
  have H := Aside0.mk (Option.some.inj h)
  clear h
  have i0 := idx37_0
  have i1 := idx37_1
  go_enter Try.func15, Try.ntmps15
  go_wp2
  go_loopg [12] (l0_2.length + 1) (fun kq v12 w' => ∃ (i : Nat), v12 = .int .i64 (i : Int) ∧ Aside0 (kq + i = l0_2.length + 1) ∧ Aside0 (i ≤ l0_2.length) ∧ Aside0 ((l0_2.drop i).all (fun x => beforeB a1 x.f1.f0 && beforeB a1 x.f1.f1) = r) ∧ Aside0 (Below w.heap.size w w'))
  case atStart => exact ⟨0, rfl, ⟨rfl⟩, ⟨Nat.zero_le _⟩, ⟨H.out⟩, ⟨below_alloc (Below.refl _ _) _⟩⟩
  case round =>
    obtain ⟨i, rfl, HK, HI, HA, HB⟩ := hrel
    clear H
    cases gk with
    | zero => have := HK.out; have := HI.out; omega
    | succ k1 =>
      by_cases c1 : i < l0_2.length
      · have c1b : decide ((i : Int) < (l0_2.length : Int)) = true := decide_eq_true (by omega)
        have p : 0 ≤ (i : Int) := by omega
        have q : (i : Int) < (l0_2.length : Int) := by omega
        obtain ⟨ad, ea, hx0, hx1, hx2⟩ := at_T41 (Kd.C_below HR.out HB.out) (i : Int) p q
        subst ea
        have p' := eq_true p
        have q' := eq_true q
        simp only [Int.toNat_natCast] at hx0 hx1 hx2
        have hi64 : (i : Int) < 9223372036854775807 := by have := HR.out.2.1; omega
        have hd := drop_T41 c1
        rw [hd, List.all_cons] at HA
        generalize rd_T41 l0_2 (i : Int) = x at hx0 hx1 hx2 HA hd
        obtain ⟨s, a, b⟩ := x
        simp only at hx0 hx1 hx2 HA
        rcases tri a1 a with ⟨a0, d0⟩ | a0 | ⟨a0, d0⟩
        · have hr : r = false := by rw [← HA.out, beforeB_not, a0, d0]; rfl
          go_wp2
          refine wp_loop_rounds 3 ?_
          rw [rounds_succ]; go_wp2
          go_ret
          exact ⟨by rw [hr]; rfl, below_alloc HB.out _⟩
        · have ha : beforeB a1 a = true := by rw [beforeB_not]; simp only [a0, Bool.false_and]; rfl
          rw [ha, Bool.true_and] at HA
          rcases tri a1 b with ⟨b0, e0⟩ | b0 | ⟨b0, e0⟩
          · have hr : r = false := by rw [← HA.out, beforeB_not, b0, e0]; rfl
            go_wp2
            refine wp_loop_rounds 3 ?_
            rw [rounds_succ]; go_wp2; rw [rounds_succ]; go_wp2
            go_ret
            exact ⟨by rw [hr]; rfl, below_alloc HB.out _⟩
          · have hr : (List.all (l0_2.drop (i + 1)) (fun x => beforeB a1 x.f1.f0 && beforeB a1 x.f1.f1)) = r := by rw [← HA.out, beforeB_not a1 b, b0]; rfl
            go_wp2
            refine wp_loop_rounds 3 ?_
            rw [rounds_succ]; go_wp2; rw [rounds_succ]; go_wp2; rw [rounds_succ]; go_wp2
            go_roundg k1
            case measure => omega
            case rel => exact ⟨i + 1, rfl, ⟨by have := HK.out; omega⟩, ⟨c1⟩, ⟨hr⟩, ⟨below_alloc HB.out _⟩⟩
          · have hr : (List.all (l0_2.drop (i + 1)) (fun x => beforeB a1 x.f1.f0 && beforeB a1 x.f1.f1)) = r := by rw [← HA.out, beforeB_not a1 b, b0, e0]; rfl
            go_wp2
            refine wp_loop_rounds 3 ?_
            rw [rounds_succ]; go_wp2; rw [rounds_succ]; go_wp2; rw [rounds_succ]; go_wp2
            go_roundg k1
            case measure => omega
            case rel => exact ⟨i + 1, rfl, ⟨by have := HK.out; omega⟩, ⟨c1⟩, ⟨hr⟩, ⟨below_alloc HB.out _⟩⟩
        · have ha : beforeB a1 a = true := by rw [beforeB_not]; simp only [a0, d0, Bool.true_and]; rfl
          rw [ha, Bool.true_and] at HA
          rcases tri a1 b with ⟨b0, e0⟩ | b0 | ⟨b0, e0⟩
          · have hr : r = false := by rw [← HA.out, beforeB_not, b0, e0]; rfl
            go_wp2
            refine wp_loop_rounds 3 ?_
            rw [rounds_succ]; go_wp2; rw [rounds_succ]; go_wp2
            go_ret
            exact ⟨by rw [hr]; rfl, below_alloc HB.out _⟩
          · have hr : (List.all (l0_2.drop (i + 1)) (fun x => beforeB a1 x.f1.f0 && beforeB a1 x.f1.f1)) = r := by rw [← HA.out, beforeB_not a1 b, b0]; rfl
            go_wp2
            refine wp_loop_rounds 3 ?_
            rw [rounds_succ]; go_wp2; rw [rounds_succ]; go_wp2; rw [rounds_succ]; go_wp2
            go_roundg k1
            case measure => omega
            case rel => exact ⟨i + 1, rfl, ⟨by have := HK.out; omega⟩, ⟨c1⟩, ⟨hr⟩, ⟨below_alloc HB.out _⟩⟩
          · have hr : (List.all (l0_2.drop (i + 1)) (fun x => beforeB a1 x.f1.f0 && beforeB a1 x.f1.f1)) = r := by rw [← HA.out, beforeB_not a1 b, b0, e0]; rfl
            go_wp2
            refine wp_loop_rounds 3 ?_
            rw [rounds_succ]; go_wp2; rw [rounds_succ]; go_wp2; rw [rounds_succ]; go_wp2
            go_roundg k1
            case measure => omega
            case rel => exact ⟨i + 1, rfl, ⟨by have := HK.out; omega⟩, ⟨c1⟩, ⟨hr⟩, ⟨below_alloc HB.out _⟩⟩
      · have hi : i = l0_2.length := by have := HI.out; omega
        subst hi
        have c1b : decide ((l0_2.length : Int) < (l0_2.length : Int)) = false := decide_eq_false (by omega)
        have hr : r = true := by rw [← HA.out, List.drop_length]; rfl
        go_wp2
        go_ret
        exact ⟨by rw [hr]; rfl, HB.out⟩

/-! ### find -/
def findB (s : Int) : List S41 → Int × Int × Bool
  | [] => (18446744073709551615, 18446744073709551615, false)
  | x :: xs => if x.f0 = s then (x.f1.f0, x.f1.f1, true) else findB s xs
def cell_Find.f (_a0_0 : Int) (_l0_1 : List Int) (l0_2 : List (S41)) (a1 : Int) : Option (Int × Int × Bool) := some (findB a1 l0_2)
theorem blk_new2 (w : World) (o o' : Obj) : ((w.alloc o).alloc o').heap[w.heap.size + 1]? = some o' := by
  show ((w.heap.push o).push o')[w.heap.size + 1]? = some o'
  rw [show w.heap.size + 1 = (w.heap.push o).size from (Array.size_push ..).symm, Array.getElem?_push_size]
theorem cell_Find.calls (a0_0 : Int) (A0_1 : Option Addr) (c0_1 : Nat) (l0_1 : List Int) (A0_2 : Option Addr) (c0_2 : Nat) (l0_2 : List (S41)) (a1 : Int) (r1 : Int) (r2 : Int) (r3 : Bool) (w : World) (hr0_1 : Kd.C (Kd.int .u8) w A0_1 l0_1.length l0_1) (hc0_1 : l0_1.length ≤ c0_1) (hr0_2 : Kd.C k41 w A0_2 l0_2.length l0_2) (hc0_2 : l0_2.length ≤ c0_2) (h : cell_Find.f a0_0 l0_1 l0_2 a1 = some (r1, r2, r3)) :
    Calls Try.prog 14 #[.agg #[.int .i64 a0_0, .slice A0_1 l0_1.length c0_1, .slice A0_2 l0_2.length c0_2], .int .i64 a1] w fun e w' => e = .returned (.tuple #[.agg #[.int .u64 r1, .int .u64 r2], .bool r3]) ∧ Below w.heap.size w w' := by
  have hu26 := Try.underlying26
  have hu37 := Try.underlying37
  have hu41 := Try.underlying41
  have HR := Aside0.mk hr0_2
  clear hr0_1 hc0_1 hr0_2 hc0_2
  have H := Aside0.mk (Option.some.inj h)
  clear h
  go_enter Try.func14, Try.ntmps14
  go_wp2
  go_loopg [13] (l0_2.length + 1) (fun kq v13 w' => ∃ (i : Nat), v13 = .int .i64 (i : Int) ∧ Aside0 (kq + i = l0_2.length + 1) ∧ Aside0 (i ≤ l0_2.length) ∧ Aside0 (findB a1 (l0_2.drop i) = (r1, r2, r3)) ∧ Aside0 (Below w.heap.size w w') ∧ Aside0 (w'.heap[w.heap.size + 1]? = some (.cells #[.int .u64 0, .int .u64 0] 37 (0, 0))))
  case atStart => exact ⟨0, rfl, ⟨rfl⟩, ⟨Nat.zero_le _⟩, ⟨H.out⟩, ⟨below_alloc (below_alloc (Below.refl _ _) _) _⟩, ⟨blk_new2 _ _ _⟩⟩
  case round =>
    obtain ⟨i, rfl, HK, HI, HA, HB, HBK⟩ := hrel
    clear H
    cases gk with
    | zero => have := HK.out; have := HI.out; omega
    | succ k1 =>
      by_cases c1 : i < l0_2.length
      · have c1b : decide ((i : Int) < (l0_2.length : Int)) = true := decide_eq_true (by omega)
        have p : 0 ≤ (i : Int) := by omega
        have q : (i : Int) < (l0_2.length : Int) := by omega
        obtain ⟨ad, ea, hx0, hx1, hx2⟩ := at_T41 (Kd.C_below HR.out HB.out) (i : Int) p q
        subst ea
        have p' := eq_true p
        have q' := eq_true q
        simp only [Int.toNat_natCast] at hx0 hx1 hx2
        have hi64 : (i : Int) < 9223372036854775807 := by have := HR.out.2.1; omega
        have hd := drop_T41 c1
        rw [hd, findB] at HA
        generalize rd_T41 l0_2 (i : Int) = x at hx0 hx1 hx2 HA hd
        obtain ⟨s, a, b⟩ := x
        simp only at hx0 hx1 hx2 HA
        by_cases c2 : s = a1
        · have c2b : (s == a1) = true := beq_iff_eq.mpr c2
          have c2c : (a, b, true) = (r1, r2, r3) := by have h2 := HA.out; rwa [if_pos c2] at h2
          have hbk := blk_alloc HBK.out (.cells #[.int .i64 s, .int .u64 a, .int .u64 b] 41)
          have z0 := (blk_cell hbk 0).trans (show _ = some (Value.int .u64 0) from rfl)
          have z1 := (blk_cell hbk 1).trans (show _ = some (Value.int .u64 0) from rfl)
          have y0 := blk_frozen hbk 0
          have y1 := blk_frozen hbk 1
          have hb1 := blk_put hbk 0 (.int .u64 a) (show _ = #[.int .u64 a, .int .u64 0] from rfl)
          have hb2 := Aside0.mk (blk_put hb1 1 (.int .u64 b) (show _ = #[.int .u64 a, .int .u64 b] from rfl))
          clear hbk hb1
          obtain ⟨rfl, rfl, rfl⟩ : a = r1 ∧ b = r2 ∧ true = r3 := by simpa using c2c
          clear c2c
          clear c2
          go_wp2
          refine bodyPost_ret (results_ct rfl _ _ (w.heap.size + 1) 37 #[.int .u64 a, .int .u64 b] (0, 0) _ rfl hb2.out Try.underlying37 rfl (by kernel_rfl)) rfl ?_
          exact ⟨by first | rfl | (simp; done), below_set (below_set (below_alloc HB.out _) (Nat.le_succ _)) (Nat.le_succ _)⟩
        · have c2b : (s == a1) = false := beq_eq_false_iff_ne.mpr c2
          have hr : findB a1 (l0_2.drop (i + 1)) = (r1, r2, r3) := by have h2 := HA.out; rwa [if_neg c2] at h2
          clear c2
          go_wp2
          go_roundg k1
          case measure => omega
          case rel => exact ⟨i + 1, rfl, ⟨by have := HK.out; omega⟩, ⟨c1⟩, ⟨hr⟩, ⟨below_alloc HB.out _⟩, ⟨blk_alloc HBK.out _⟩⟩
      · have hi : i = l0_2.length := by have := HI.out; omega
        subst hi
        have c1b : decide ((l0_2.length : Int) < (l0_2.length : Int)) = false := decide_eq_false (by omega)
        have hr := HA.out
        rw [List.drop_length, findB] at hr
        obtain ⟨rfl, rfl, rfl⟩ : 18446744073709551615 = r1 ∧ 18446744073709551615 = r2 ∧ false = r3 := by simpa using hr
        clear hr
        have hbk := blk_alloc HBK.out (.cells #[.int .u64 18446744073709551615, .int .u64 18446744073709551615] 37)
        have z0 := (blk_cell hbk 0).trans (show _ = some (Value.int .u64 0) from rfl)
        have z1 := (blk_cell hbk 1).trans (show _ = some (Value.int .u64 0) from rfl)
        have y0 := blk_frozen hbk 0
        have y1 := blk_frozen hbk 1
        have hb1 := blk_put hbk 0 (.int .u64 18446744073709551615) (show _ = #[.int .u64 18446744073709551615, .int .u64 0] from rfl)
        have hb2 := Aside0.mk (blk_put hb1 1 (.int .u64 18446744073709551615) (show _ = #[.int .u64 18446744073709551615, .int .u64 18446744073709551615] from rfl))
        clear hbk hb1
        go_wp2
        refine wp_loop_rounds 3 ?_
        rw [rounds_succ]; go_wp2; rw [rounds_succ]; go_wp2; rw [rounds_succ]; go_wp2
        refine bodyPost_ret (results_ct rfl _ _ (w.heap.size + 1) 37 #[.int .u64 18446744073709551615, .int .u64 18446744073709551615] (0, 0) _ rfl hb2.out Try.underlying37 rfl (by kernel_rfl)) rfl ?_
        exact ⟨by first | rfl | (simp; done), below_set (below_set (below_alloc HB.out _) (Nat.le_succ _)) (Nat.le_succ _)⟩

/-! ### closure -/
def wrongB (last : Int) (x : S41) : Bool := decide (x.f0 ≤ last) || decide (x.f0 ≥ 16) || !lastingB x.f1.f0 x.f1.f1
theorem below_put {B g j : Nat} {w W : World} {v : Value} (h : Below B w W) (hg : B ≤ g) : Below B w (W.setCell ⟨g, j, none⟩ v) := h.setCell hg _
theorem below_pa {g : Nat} {w : World} (hg : g < w.heap.size) (v : Value) (o : Obj) : Below g w ((w.setCell ⟨g, 0, none⟩ v).alloc o) := by
  have h : Below g w (w.setCell ⟨g, 0, none⟩ v) := below_put (Below.refl g w) (Nat.le_refl _)
  exact h.alloc (Nat.le_trans (Nat.le_of_lt hg) h.size) o
theorem size_alloc1 (w : World) (o : Obj) : (w.alloc o).heap.size = w.heap.size + 1 := by
  show (w.heap.push o).size = _
  rw [Array.size_push]
theorem blk_last (w : World) (o : Obj) : (w.alloc o).heap[w.heap.size]? = some o := by
  show (w.heap.push o)[w.heap.size]? = some o
  rw [Array.getElem?_push_size]
theorem cell_Right_lit (s a b last : Int) (g : Nat) (w : World) (hg : w.heap[g]? = some (.cells #[.int .i64 last] 3 (0, 0))) :
    Calls Try.prog 22 #[.agg #[.int .i64 s, .int .u64 a, .int .u64 b], .pointer (some ⟨g, 0, none⟩)] w fun e w' => e = .returned (.bool (wrongB last ⟨s, ⟨a, b⟩⟩)) ∧ Below g w w' ∧ w'.heap[g]? = some (.cells #[.int .i64 s] 3 (0, 0)) := by
  have hu37 := Try.underlying37
  have hu41 := Try.underlying41
  have hgl := blk_lt hg
  have hc0 := (blk_cell hg 0).trans (show _ = some (Value.int .i64 last) from rfl)
  have hb1 := Aside0.mk (blk_alloc hg (.cells #[.int .i64 s, .int .u64 a, .int .u64 b] 41))
  have z0 := (blk_cell hb1.out 0).trans (show _ = some (Value.int .i64 last) from rfl)
  have y0 := blk_frozen hb1.out 0
  rcases Classical.em (s ≤ last) with c1 | c1
  · have d1 : decide (s ≤ last) = true := decide_eq_true c1
    have hr : wrongB last ⟨s, ⟨a, b⟩⟩ = true := by unfold wrongB; simp [d1]
    rw [hr]
    clear c1 hr
    go_enter Try.func22, Try.ntmps22
    go_wp2
    go_ret
    exact ⟨by first | rfl | (simp; done), below_pa hgl _ _, blk_alloc (blk_put hg 0 _ rfl) _⟩
  · have d1 : decide (s ≤ last) = false := decide_eq_false c1
    rcases Classical.em (16 ≤ s) with c2 | c2
    · have d2 : decide (16 ≤ s) = true := decide_eq_true c2
      have hr : wrongB last ⟨s, ⟨a, b⟩⟩ = true := by unfold wrongB; simp [c2]
      rw [hr]
      clear c1 c2 hr
      go_enter Try.func22, Try.ntmps22
      go_wp2
      go_ret
      exact ⟨by first | rfl | (simp; done), below_pa hgl _ _, blk_alloc (blk_put hg 0 _ rfl) _⟩
    · have d2 : decide (16 ≤ s) = false := decide_eq_false c2
      have hr : wrongB last ⟨s, ⟨a, b⟩⟩ = !lastingB a b := by unfold wrongB; simp [c1, c2]
      rw [hr]
      clear c1 c2 hr
      generalize hq : lastingB a b = q
      have hb4 := Aside0.mk (blk_last w (.cells #[.int .i64 s, .int .u64 a, .int .u64 b] 41))
      go_enter Try.func22, Try.ntmps22
      go_wp2_with (first | (go_at_call 23; (refine (cell_lasting.calls a b _).mono ?_); rintro e w2 ⟨rfl, hb⟩; rw [hq]; have hb3 := blk_below hb1.out hb; have z3 := (blk_cell hb3 0).trans (show _ = some (Value.int .i64 last) from rfl); have y3 := blk_frozen hb3 0; have hb5 := blk_below hb4.out hb; have z5 := (blk_cell hb5 0).trans (show _ = some (Value.int .i64 s) from rfl); have hb6 := Aside0.mk hb3; have hb7 := Aside0.mk hb; clear hb hb3 hb5))
      go_ret
      exact ⟨by first | rfl | (simp; done), below_put (((Below.refl g w).alloc (Nat.le_of_lt hgl) _).trans (hb7.out.mono (by rw [size_alloc1]; omega))) (Nat.le_refl _), blk_put hb6.out 0 _ rfl⟩

/-! ### indexfunc -/
def rightB (last : Int) : List S41 → Bool
  | [] => true
  | x :: xs => !wrongB last x && rightB x.f0 xs
theorem cell_Right_idx (A : Option Addr) (c : Nat) (l : List S41) (last : Int) (g : Nat) (w0 w : World) (hr : Kd.C k41 w0 A l.length l) (hB : Below w0.heap.size w0 w) (hg0 : w0.heap.size ≤ g) (hg : w.heap[g]? = some (.cells #[.int .i64 last] 3 (0, 0))) :
    Calls Try.prog 29 #[.slice A l.length c, .func (.func 22) #[] #[.pointer (some ⟨g, 0, none⟩)]] w fun e w' => ∃ z : Int, e = .returned (.int .i64 z) ∧ decide (0 ≤ z) = (!rightB last l) ∧ Below g w w' := by
  have hu41 := Try.underlying41
  have HR := Aside0.mk hr
  have HB0 := Aside0.mk hB
  have HG := Aside0.mk hg
  clear hr hB hg
  go_enter Try.func29, Try.ntmps29
  go_wp2
  go_loopg [8] (l.length + 1) (fun kq v8 w' => ∃ (i : Nat) (lc : Int), v8 = .int .i64 (i : Int) ∧ Aside0 (kq + i = l.length + 1) ∧ Aside0 (i ≤ l.length) ∧ Aside0 (rightB lc (l.drop i) = rightB last l) ∧ Aside0 (Below g w w') ∧ Aside0 (w'.heap[g]? = some (.cells #[.int .i64 lc] 3 (0, 0))))
  case atStart => exact ⟨0, last, rfl, ⟨rfl⟩, ⟨Nat.zero_le _⟩, ⟨rfl⟩, ⟨Below.refl _ _⟩, HG⟩
  case round =>
    obtain ⟨i, lc, rfl, HK, HI, HA, HB, HBK⟩ := hrel
    cases gk with
    | zero => have := HK.out; have := HI.out; omega
    | succ k1 =>
      by_cases c1 : i < l.length
      · have c1b : decide ((i : Int) < (l.length : Int)) = true := decide_eq_true (by omega)
        have p : 0 ≤ (i : Int) := by omega
        have q : (i : Int) < (l.length : Int) := by omega
        obtain ⟨ad, ea, hx0, hx1, hx2⟩ := at_T41 (Kd.C_below HR.out (HB0.out.trans (HB.out.mono hg0))) (i : Int) p q
        subst ea
        have p' := eq_true p
        have q' := eq_true q
        simp only [Int.toNat_natCast] at hx0 hx1 hx2
        have hi64 : (i : Int) < 9223372036854775807 := by have := HR.out.2.1; omega
        have hd := drop_T41 c1
        rw [hd, rightB] at HA
        generalize rd_T41 l (i : Int) = x at hx0 hx1 hx2 HA hd
        obtain ⟨s, a, b⟩ := x
        simp only at hx0 hx1 hx2
        cases hq : wrongB lc ⟨s, ⟨a, b⟩⟩
        · go_wp2_with (first | (go_at_call 22; (refine (cell_Right_lit s a b lc g _ HBK.out).mono ?_); rintro e w2 ⟨rfl, hb, hbk⟩; rw [hq]; have hb6 := Aside0.mk hb; have hb7 := Aside0.mk hbk; clear hb hbk))
          go_roundg k1
          case measure => omega
          case rel => exact ⟨i + 1, s, rfl, ⟨by have := HK.out; omega⟩, ⟨c1⟩, ⟨by rw [← HA.out, hq]; rfl⟩, ⟨HB.out.trans hb6.out⟩, hb7⟩
        · go_wp2_with (first | (go_at_call 22; (refine (cell_Right_lit s a b lc g _ HBK.out).mono ?_); rintro e w2 ⟨rfl, hb, hbk⟩; rw [hq]; have hb6 := Aside0.mk hb; have hb7 := Aside0.mk hbk; clear hb hbk))
          go_ret
          exact ⟨(i : Int), by first | rfl | (simp; done), by rw [← HA.out, hq]; simp, HB.out.trans hb6.out⟩
      · have hi : i = l.length := by have := HI.out; omega
        subst hi
        have c1b : decide ((l.length : Int) < (l.length : Int)) = false := decide_eq_false (by omega)
        have hr := HA.out
        rw [List.drop_length, rightB] at hr
        go_wp2
        go_ret
        exact ⟨-1, by first | rfl | (simp; done), by rw [← hr]; rfl, HB.out⟩

/-! ### right -/
theorem cell_Right_has (A : Option Addr) (c : Nat) (l : List S41) (last : Int) (g : Nat) (w0 w : World) (hr : Kd.C k41 w0 A l.length l) (hB : Below w0.heap.size w0 w) (hg0 : w0.heap.size ≤ g) (hg : w.heap[g]? = some (.cells #[.int .i64 last] 3 (0, 0))) :
    Calls Try.prog 21 #[.slice A l.length c, .func (.func 22) #[] #[.pointer (some ⟨g, 0, none⟩)]] w fun e w' => e = .returned (.bool (!rightB last l)) ∧ Below g w w' := by
  go_enter Try.func21, Try.ntmps21
  go_wp2_with (first | (go_at_call 29; (refine (cell_Right_idx A c l last g w0 _ hr hB hg0 hg).mono ?_); rintro e w2 ⟨z, rfl, hz, hb⟩; have hb6 := Aside0.mk hb; clear hb))
  go_ret
  exact ⟨by first | rfl | (rw [← hz]; rfl), hb6.out⟩
def cell_Right.f (a0_0 : Int) (l0_1 : List Int) (l0_2 : List (S41)) : Option (Bool) := some (if a0_0 = 2 then decide (l0_1.length = 0) && decide (l0_2.length = 0) else decide (a0_0 = 1) && decide (l0_1.length ≤ 100) && decide (l0_2.length ≤ 4) && rightB (-1) l0_2)
theorem cell_Right.calls (a0_0 : Int) (A0_1 : Option Addr) (c0_1 : Nat) (l0_1 : List Int) (A0_2 : Option Addr) (c0_2 : Nat) (l0_2 : List (S41)) (r : Bool) (w : World) (hr0_1 : Kd.C (Kd.int .u8) w A0_1 l0_1.length l0_1) (hc0_1 : l0_1.length ≤ c0_1) (hr0_2 : Kd.C k41 w A0_2 l0_2.length l0_2) (hc0_2 : l0_2.length ≤ c0_2) (h : cell_Right.f a0_0 l0_1 l0_2 = some r) :
    Calls Try.prog 11 #[.agg #[.int .i64 a0_0, .slice A0_1 l0_1.length c0_1, .slice A0_2 l0_2.length c0_2]] w fun e w' => e = .returned (.bool r) ∧ Below w.heap.size w w' := by
  have hu26 := Try.underlying26
  have H := Option.some.inj h
  subst H
  clear h hr0_1 hc0_1 hc0_2
  have hmf : ∀ (fn : Fn) (first cap : Array Value) (w : World), (Instr.makeFunc fn first cap).run Try.prog w = .ok (.func fn first cap) w := fun _ _ _ _ => rfl
  by_cases c1 : a0_0 = 2
  · have c1b : (a0_0 == 2) = true := beq_iff_eq.mpr c1
    rw [if_pos c1]
    clear c1
    cases hx : decide ((l0_1.length : Int) = 0)
    · have d1 : ((l0_1.length : Int) == 0) = false := by simpa using hx
      have hr : decide (l0_1.length = 0) = false := by simpa using hx
      have hr' : (l0_1.length == 0) = false := by simpa using hx
      rw [hr]
      go_enter Try.func11, Try.ntmps11
      go_wp2
      go_ret
      exact ⟨by first | rfl | (simp; done), below_alloc (Below.refl _ _) _⟩
    · have d1 : ((l0_1.length : Int) == 0) = true := by simpa using hx
      have hr : decide (l0_1.length = 0) = true := by simpa using hx
      rw [hr, Bool.true_and]
      go_enter Try.func11, Try.ntmps11
      go_wp2
      go_ret
      exact ⟨by first | rfl | (simp; done) | (simp; rw [Bool.eq_iff_iff]; simp; done), below_alloc (Below.refl _ _) _⟩
  · have c1b : (a0_0 == 2) = false := beq_eq_false_iff_ne.mpr c1
    rw [if_neg c1]
    cases hx : (decide (a0_0 = 1) && decide (l0_1.length ≤ 100) && decide (l0_2.length ≤ 4))
    · rw [Bool.false_and]
      have hfin : ∀ w' : World, w' = w.alloc (.cells #[.int .i64 a0_0, .slice A0_1 l0_1.length c0_1, .slice A0_2 l0_2.length c0_2] 26) → Below w.heap.size w w' := fun w' e => by rw [e]; exact below_alloc (Below.refl _ _) _
      by_cases e1 : a0_0 = 1
      · subst e1
        by_cases e2 : l0_1.length ≤ 100
        · have e3 : ¬ l0_2.length ≤ 4 := by simpa [e2] using hx
          have d2 : decide (100 < l0_1.length) = false := decide_eq_false (by omega)
          have d3 : decide (4 < l0_2.length) = true := decide_eq_true (by omega)
          have d2' : decide ((100 : Int) < (l0_1.length : Int)) = false := decide_eq_false (by omega)
          have d3' : decide ((4 : Int) < (l0_2.length : Int)) = true := decide_eq_true (by omega)
          clear hx e2 e3 c1
          go_enter Try.func11, Try.ntmps11
          go_wp2
          go_ret
          exact ⟨by first | rfl | (simp; done), below_alloc (Below.refl _ _) _⟩
        · have d2 : decide (100 < l0_1.length) = true := decide_eq_true (by omega)
          have d2' : decide ((100 : Int) < (l0_1.length : Int)) = true := decide_eq_true (by omega)
          clear hx e2 c1
          go_enter Try.func11, Try.ntmps11
          go_wp2
          go_ret
          exact ⟨by first | rfl | (simp; done), below_alloc (Below.refl _ _) _⟩
      · have d1 : (a0_0 != 1) = true := bne_iff_ne.mpr e1
        clear hx e1 c1
        go_enter Try.func11, Try.ntmps11
        go_wp2
        go_ret
        exact ⟨by first | rfl | (simp; done), below_alloc (Below.refl _ _) _⟩
    · rw [Bool.true_and]
      simp only [Bool.and_eq_true, decide_eq_true_eq] at hx
      obtain ⟨⟨e1, e2⟩, e3⟩ := hx
      subst e1
      have d2 : decide ((l0_1.length : Int) > 100) = false := decide_eq_false (by omega)
      have d3 : decide ((l0_2.length : Int) > 4) = false := decide_eq_false (by omega)
      have d2' : decide (100 < l0_1.length) = false := decide_eq_false (by omega)
      have d3' : decide (4 < l0_2.length) = false := decide_eq_false (by omega)
      clear c1 e2 e3
      go_enter Try.func11, Try.ntmps11
      go_wp2_with (first | (go_at_call 21; (refine (cell_Right_has A0_2 c0_2 l0_2 (-1) (w.heap.size + 1) w _ hr0_2 (below_alloc (below_alloc (Below.refl _ _) _) _) (Nat.le_succ _) (blk_new2 _ _ _)).mono ?_); rintro e w2 ⟨rfl, hb⟩; have hb6 := Aside0.mk hb; clear hb))
      go_ret
      exact ⟨by first | rfl | (simp; done), (below_alloc (below_alloc (Below.refl _ _) _) _).trans (hb6.out.mono (Nat.le_succ _))⟩
end Go.Proofs.Ytknjhmclnnjbnaa.Fn
