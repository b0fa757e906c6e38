/- The walks of reader.number, reader.back and Decode, by hand; conditions: as each theorem names them. -/
import Derived.Test.YtknjhmclnnjbnaaDec
namespace Go.Proofs.Ytknjhmclnnjbnaa.Fn
open Go.RowKit Go.Proofs.YtknjhmclnnjbnaaW.PrintWords Go.Proofs.YtknjhmclnnjbnaaW.PrintLast Go.Proofs.YtknjhmclnnjbnaaW.PrintMore
attribute [local go_sem] max2_int min2_int max_two min_two max_three min_three max_four min_four
set_option linter.unusedVariables false
set_option linter.unusedSimpArgs false
def cell_Decode.T8 : Bool × List (List Nat × List Nat) := (true, [([], []), ([0], [0]), ([], []), ([2], [2]), ([3], [3]), ([1, 4, 3], [1, 4]), ([0, 1, 2, 3, 4, 5], []), ([6, 5, 5, 0, 1, 2, 3, 4, 5], [5, 6])])
theorem cell_Decode.tab8 : rtab .any (opsOf Try.f10 8) = cell_Decode.T8 := by kernel_rfl
theorem Fr.set3 (g : Nat) (u v z : Value) (w : World) : Fr g w (((w.setCell ⟨g, 0, none⟩ u).setCell ⟨g, 1, none⟩ v).setCell ⟨g, 2, none⟩ z) := (Fr.set g 0 u w).trans ((Fr.set g 1 v _).trans (Fr.set g 2 z _))
theorem cell_Clone.calls (A0 : Option Addr) (c0 : Nat) (r : List Int) (hl : r.length ≤ 140737488355328) (w : World) (hr0 : Kd.C (Kd.int .u8) w A0 r.length r) :
    Calls Try.prog 19 #[.slice A0 r.length c0] w fun e w' => ∃ v0_ : Value, e = .returned (v0_) ∧ Kd.R (Kd.int .u8) 5 w' w.heap.size (fun _ => True) v0_ r ∧ Below w.heap.size w w' := by
  have hR := Kd.reads_of_C (d := (0 : Int)) hr0
  rcases A0 with _ | a
  · have h0 : r.length = 0 := by
      rcases Nat.eq_zero_or_pos r.length with h0 | h0
      · exact h0
      · obtain ⟨ad, he, _⟩ := hR.2.2 h0
        cases he
    have : r = [] := List.eq_nil_of_length_eq_zero h0
    subst this
    refine (Try.bytes_Clone_nil 0 c0 w).mono ?_
    rintro e w' ⟨rfl, rfl⟩
    exact ⟨_, rfl, Kd.R_nil _ _ _ _ _, Below.refl _ _⟩
  · refine (Try.bytes_Clone_at a r.length c0 r w rfl (by omega) (fun i hi => ?_)).mono ?_
    · obtain ⟨ad, he, hcell⟩ := hR.2.2 (by omega)
      cases he
      exact hcell i hi
    · rintro e w' ⟨v', rfl, hown, _, hb⟩
      exact ⟨v', rfl, Kd.R_of_own hown (fun _ _ => trivial), hb⟩
theorem info41_ : (Try.prog.info? 41).map (fun i => (i.zero, i.size, i.bytes)) = some (some (.agg #[.int .i64 0, .int .u64 0, .int .u64 0]), 3, 24) := by kernel_rfl
def backsAt (b : List Int) : Nat → Int → Bool → Option (List S41 × Bool)
  | 0, _, ok => some ([], ok)
  | n + 1, at_, ok => (backAt b at_ ok).bind fun x => (backsAt b n (nextAt at_) x.2).bind fun xs => some (x.1 :: xs.1, xs.2)
def endAt : Nat → Int → Int
  | 0, a => a
  | n + 1, a => endAt n (nextAt a)
def headAt (a : Int) : Int := wrap64 (Int.tdiv (wrap64 (wrap64 (a + 8) - 1)) 8)
def cell_Decode.f (k : Nat) (l : List Int) : Option (Int × List Int × List S41 × Int) :=
  if l = [2] then some (2, [], [], 0) else
  (numAt l 0 2 true).bind fun kind => (numAt l 2 3 kind.2).bind fun count => (numAt l 5 7 count.2).bind fun size =>
    if 0 ≤ count.1 ∧ count.1 < 8 then (backsAt l count.1.toNat 12 size.2).bind fun bs =>
      if bs.2 = false then some (0, [], [], 71) else
      if wrap64 ((l.length : Int) - headAt (endAt count.1.toNat 12)) = wrap64 size.1 then
        if 0 ≤ headAt (endAt count.1.toNat 12) ∧ headAt (endAt count.1.toNat 12) ≤ (l.length : Int) then
          (cell_Encode.f k (wrap64 kind.1) (l.drop (headAt (endAt count.1.toNat 12)).toNat) bs.1).bind fun e =>
            if e.2 = 0 then (if (strOfNums e.1).toList = (strOfNums l).toList then some (wrap64 kind.1, l.drop (headAt (endAt count.1.toNat 12)).toNat, bs.1, 0) else some (0, [], [], 71)) else some (0, [], [], 71)
        else none
      else some (0, [], [], 71)
    else none
set_option maxHeartbeats 8000000 in
theorem cell_Decode.calls (k : Nat) (A0 : Option Addr) (c0 : Nat) (l0 : List Int) (hL : l0.length ≤ 1000000) (r1 : Int) (r2 : List Int) (r3 : List S41) (r4 : Int) (w : World) (hr0 : Kd.C (Kd.int .u8) w A0 l0.length l0) (hc0 : l0.length ≤ c0) (h : cell_Decode.f k l0 = some (r1, r2, r3, r4)) :
    Calls Try.prog 10 #[.slice A0 l0.length c0] w fun e w' => ∃ v1_ v2_ : Value, e = .returned (.tuple #[.agg #[.int .i64 r1, v1_, v2_], .int .i64 r4]) ∧ Kd.R (Kd.int .u8) 5 w' w.heap.size (fun _ => True) v1_ r2 ∧ Kd.R k41 41 w' w.heap.size (fun _ => True) v2_ r3 ∧ Below w.heap.size w w' := by
  by_cases e2 : l0 = [2]
  · subst e2
    rw [cell_Decode.f, if_pos rfl] at h
    cases h
    refine (decTwo A0 c0 w hr0 hc0).mono ?_
    rintro e w' ⟨rfl, hb⟩
    exact ⟨_, _, rfl, Kd.R_nil _ _ _ _ _, Kd.R_nil _ _ _ _ _, hb⟩
  rw [cell_Decode.f, if_neg e2] at h
  obtain ⟨⟨kd, o1⟩, h0, h⟩ := Option.bind_eq_some_iff.mp h
  obtain ⟨⟨cn, o2⟩, h1, h⟩ := Option.bind_eq_some_iff.mp h
  obtain ⟨⟨sz, o3⟩, h2, h⟩ := Option.bind_eq_some_iff.mp h
  dsimp only at h0 h1 h2 h
  have hcn : 0 ≤ cn ∧ cn < 8 := by
    apply Classical.byContradiction
    intro hcn
    rw [if_neg hcn] at h
    cases h
  rw [if_pos hcn] at h
  obtain ⟨i0, rfl⟩ : ∃ i : Nat, cn = (i : Int) := ⟨cn.toNat, by omega⟩
  have hi0 : i0 < 8 := by omega
  rw [Int.toNat_natCast] at h
  clear hcn
  obtain ⟨⟨BS, okf⟩, h3, h⟩ := Option.bind_eq_some_iff.mp h
  have H := Aside0.mk h
  clear h
  have hu50 := Try.underlying50
  have hu26 := Try.underlying26
  have HBa := below_alloc (below_alloc (Below.refl w.heap.size w) (.cells #[.int .i64 0, .slice none 0 0, .slice none 0 0] 26)) (.cells #[.slice A0 l0.length c0, .int .i64 0, .bool true] 50)
  by_cases c1 : l0.length = 1
  · have c1b : ((l0.length : Int) == 1) = true := by simp [c1]
    obtain ⟨ad, ea, hx⟩ := Kd.at_int (Kd.C_alloc hr0 (.cells #[.int .i64 0, .slice none 0 0, .slice none 0 0] 26)) 0 (by decide) (by omega)
    cases ea
    rw [show ad.add ((0:Int).toNat) = ad from rfl] at hx
    have c2 : ¬ rd l0 0 = 2 := by
      intro hh
      match l0, c1 with
      | [x], _ => exact e2 (by simpa [rd] using hh)
    have c2b : (rd l0 0 == 2) = false := beq_eq_false_iff_ne.mpr c2
    have c3 : (0 : Int) < (l0.length : Int) := by omega
    have c3a : decide ((0 : Int) < (l0.length : Int)) = true := decide_eq_true c3
    have c3b : decide (0 < l0.length) = true := decide_eq_true (by omega)
    have c3c : (0 < l0.length) = True := eq_true (by omega)
    have c3' := eq_true c3
    clear c2 c3
    have c1' := Aside0.mk c1
    clear c1
    go_enter Try.func10, Try.ntmps10
    go_wp2_with fail
    go_at_call 17
    refine (cell_number.calls (some ad) c0 l0 0 2 true kd o1 (w.heap.size + 1) w _ hr0 hc0 HBa (Nat.le_succ _) (blk_new2 w (.cells #[.int .i64 0, .slice none 0 0, .slice none 0 0] 26) (.cells #[.slice (some ad) l0.length c0, .int .i64 0, .bool true] 50)) h0).mono ?_
    rintro e w1 ⟨rfl, hg_, hf1⟩
    have BG1 : w1.heap[(w.heap.size + 1)]? = some (.cells #[.slice (some ad) l0.length c0, .int .i64 2, .bool o1] 50) := by rw [show wrap64 (0 + 2) = 2 from by unfold wrap64; omega] at hg_; exact hg_
    clear hg_
    have hs1 : w.heap.size + 1 + 1 ≤ w1.heap.size := by have := hf1.size; rwa [alloc_size, alloc_size] at this
    have hmg : w1.heap.size ≠ w.heap.size + 1 := by omega
    have hrg : w.heap.size ≠ w.heap.size + 1 := by omega
    have hrm : w.heap.size ≠ w1.heap.size := by omega
    have HB1 := Fr.below HBa (Nat.le_succ _) hf1
    have BR1 := Fr.blk hf1 (blk_alloc (blk_new w (.cells #[.int .i64 0, .slice none 0 0, .slice none 0 0] 26)) (.cells #[.slice (some ad) l0.length c0, .int .i64 0, .bool true] 50)) hrg
    clear hf1
    have HB1a := below_alloc HB1 (.cells #[.int .i64 (wrap64 kd), .slice none 0 0, .slice none 0 0] 26)
    have BG1a := blk_alloc BG1 (.cells #[.int .i64 (wrap64 kd), .slice none 0 0, .slice none 0 0] 26)
    have BR1a := blk_alloc BR1 (.cells #[.int .i64 (wrap64 kd), .slice none 0 0, .slice none 0 0] 26)
    have BM1a := blk_new w1 (.cells #[.int .i64 (wrap64 kd), .slice none 0 0, .slice none 0 0] 26)
    clear HB1 BG1 BR1
    go_wp2_with fail
    go_at_call 17
    refine (cell_number.calls (some ad) c0 l0 2 3 o1 (i0 : Int) o2 (w.heap.size + 1) w _ hr0 hc0 HB1a (Nat.le_succ _) BG1a h1).mono ?_
    rintro e w2 ⟨rfl, hg_, hf2⟩
    have BG2 : w2.heap[(w.heap.size + 1)]? = some (.cells #[.slice (some ad) l0.length c0, .int .i64 5, .bool o2] 50) := by rw [show wrap64 (2 + 3) = 5 from by unfold wrap64; omega] at hg_; exact hg_
    clear hg_
    have HB2 := Fr.below HB1a (Nat.le_succ _) hf2
    have BR2 := Fr.blk hf2 BR1a hrg
    have BM2 := Fr.blk hf2 BM1a hmg
    clear hf2 HB1a BG1a BR1a BM1a
    go_wp2_with fail
    go_at_call 17
    refine (cell_number.calls (some ad) c0 l0 5 7 o2 sz o3 (w.heap.size + 1) w _ hr0 hc0 HB2 (Nat.le_succ _) BG2 h2).mono ?_
    rintro e w3 ⟨rfl, hg_, hf3⟩
    have BG3 : w3.heap[(w.heap.size + 1)]? = some (.cells #[.slice (some ad) l0.length c0, .int .i64 12, .bool o3] 50) := by rw [show wrap64 (5 + 7) = 12 from by unfold wrap64; omega] at hg_; exact hg_
    clear hg_
    have HB3 := Fr.below HB2 (Nat.le_succ _) hf3
    have BR3 := Fr.blk hf3 BR2 hrg
    have BM3 := Fr.blk hf3 BM2 hmg
    clear hf3 HB2 BG2 BR2 BM2
    go_wp2_with fail
    go_loopg [6] (i0 + 1) (fun kq v6 w' => ∃ (i : Nat) (at_ : Int) (okk : Bool) (ys : List S41) (vB : Value), v6 = .int .u64 (i : Int) ∧ Aside0 (kq = i + 1) ∧ Aside0 (∃ zs, backsAt l0 i at_ okk = some (zs, okf) ∧ ys ++ zs = BS) ∧ Aside0 (endAt i at_ = endAt i0 12) ∧ Aside0 (ys.length + i = i0) ∧ Aside0 (w'.heap[(w.heap.size + 1)]? = some (.cells #[.slice (some ad) l0.length c0, .int .i64 at_, .bool okk] 50 (0, 0))) ∧ Aside0 (w'.heap[w1.heap.size]? = some (.cells #[.int .i64 (wrap64 kd), .slice none 0 0, vB] 26 (0, 0))) ∧ Aside0 (w'.heap[w.heap.size]? = some (.cells #[.int .i64 0, .slice none 0 0, .slice none 0 0] 26 (0, 0))) ∧ Aside0 (Kd.R k41 41 w' w.heap.size (fun k => k ≠ w.heap.size + 1 ∧ k ≠ w1.heap.size ∧ k ≠ w.heap.size) vB ys) ∧ Aside0 (Below w.heap.size w w'))
    case atStart => exact ⟨i0, 12, o3, [], .slice none 0 0, rfl, ⟨rfl⟩, ⟨⟨BS, h3, rfl⟩⟩, ⟨rfl⟩, ⟨Nat.zero_add _⟩, ⟨BG3⟩, ⟨BM3⟩, ⟨BR3⟩, ⟨Kd.R_nil _ _ _ _ _⟩, ⟨HB3⟩⟩
    case round =>
      obtain ⟨i, at_, okk, ys, vB, rfl, HK, HZ, HE, HY, BG, BM, BR, RB, HB⟩ := hrel
      clear BG3 BM3 BR3 HB3
      obtain ⟨AB, cB, rfl⟩ := Kd.R_slice RB.out
      cases gk with
      | zero => have := HK.out; omega
      | succ k1 =>
        by_cases c5 : 0 < i
        · have c5b : decide ((0 : Int) < (i : Int)) = true := decide_eq_true (by omega)
          have c5c : decide (0 < i) = true := decide_eq_true c5
          obtain ⟨n, hn⟩ : ∃ n, i = n + 1 := ⟨i - 1, by omega⟩
          have HN := Aside0.mk hn
          obtain ⟨zs, hz, hys⟩ := HZ.out
          rw [hn, backsAt] at hz
          clear hn c5 HZ
          obtain ⟨⟨x, ok2⟩, hbk, hz⟩ := Option.bind_eq_some_iff.mp hz
          obtain ⟨⟨zs2, okg⟩, hz2, hz⟩ := Option.bind_eq_some_iff.mp hz
          obtain ⟨rfl, rfl⟩ : x :: zs2 = zs ∧ okg = okf := by simpa using hz
          have HZ2 := Aside0.mk hz2
          have HYS := Aside0.mk hys
          clear hz hz2 hys
          go_upto_region 8 with fail
          (try simp only [Act.put, List.setIfInBounds_toArray, List.set_cons_zero, List.set_cons_succ])
          have BMd := blk_drew BM.out
          refine start_ (n := 8) (S := fun w' => w'.cell? ⟨w1.heap.size, 2, none⟩ = some (.slice AB ys.length cB)) (ds := [7]) #[false, false, false, false, false, false, false, false] (by kernel_rfl) rfl rfl ((blk_cell BMd 2).trans rfl) (fun hHeld => ?_)
          have HT_ := Aside0.mk cell_Decode.tab8
          have BGd := blk_drew BG.out
          have BRd := blk_drew BR.out
          have RBd := Kd.R_drew RB.out
          have HBd := below_drew1 HB.out
          clear BG BM BR RB HB
          generalize wr.drew = wd at hHeld BMd BGd BRd RBd HBd ⊢
          refine pure_ (i := 0) (N := some 36) (v := ?_) (a' := ?_) #[true, false, false, false, false, false, false, false] rfl rfl (any_of HT_.out (by kernel_rfl)) (fun _ _ _ h => h) (Or.inl ⟨by rfl, ?_⟩) ?_ ?_
          rotate_left
          · intro w'
            go_simp
            with_reducible rfl
          rotate_left
          · simp only [Act.put, List.setIfInBounds_toArray, List.set_cons_zero, List.set_cons_succ, i64_w, i32_w]
            rfl
          refine take_ (i := 1) (N := some 37) (v := ?_) (a' := ?_) #[true, true, false, false, false, false, false, false] rfl rfl (take_of HT_.out (by kernel_rfl)) (fun _ _ _ h => h) (Or.inl ⟨by rfl, ?_⟩) hHeld ?_ ?_
          rotate_left
          · rintro w' s0
            go_simp
            with_reducible rfl
          rotate_left
          · simp only [Act.put, List.setIfInBounds_toArray, List.set_cons_zero, List.set_cons_succ, i64_w, i32_w]
            rfl
          refine pure_ (i := 2) (N := some 38) (v := ?_) (a' := ?_) #[true, true, true, false, false, false, false, false] rfl rfl (any_of HT_.out (by kernel_rfl)) (fun _ _ _ h => h) (Or.inl ⟨by rfl, ?_⟩) ?_ ?_
          rotate_left
          · intro w'
            go_simp
            with_reducible rfl
          rotate_left
          · simp only [Act.put, List.setIfInBounds_toArray, List.set_cons_zero, List.set_cons_succ, i64_w, i32_w]
            rfl
          refine one_ (i := 3) (N := some 39) #[true, true, true, true, false, false, false, false] rfl rfl (one_of HT_.out (by kernel_rfl)) (by decide) (fun K hK => ?_)
          refine goes_ Try.func18 (by kernel_rfl) rfl #[.pointer (some ⟨(w.heap.size + 1), 0, none⟩)] (by rfl) rfl rfl (by (try simp only [List.map_toArray, List.map_cons, List.map_nil]); first | done | rfl) ?_
          refine (cell_back.calls (some ad) c0 l0 at_ okk x ok2 (w.heap.size + 1) w wd hr0 hc0 HBd (Nat.le_succ _) BGd hbk).mono ?_
          rintro e wB ⟨rfl, BGb, hfB⟩
          refine ⟨_, rfl, ?_⟩
          have BMb := Fr.blk hfB BMd hmg
          have BRb := Fr.blk hfB BRd hrg
          have RBb := Kd.R_step RBd (fun k hk hlt => hfB.block k hlt hk.1)
          have HBb := Fr.below HBd (Nat.le_succ _) hfB
          clear hfB BMd BRd RBd HBd BGd hHeld
          refine hK.out _ _ ((blk_cell BMb 2).trans rfl) (fun hHeld => ?_)
          clear hK K
          refine norm_ (a' := ?_) ?_ ?_
          rotate_left
          · show Act.put _ (some 39) _ = _
            simp only [Act.put, List.setIfInBounds_toArray, List.set_cons_zero, List.set_cons_succ, i64_w, i32_w]
            rfl
          refine one_ (i := 4) (N := some 40) #[true, true, true, true, true, false, false, false] rfl rfl (one_of HT_.out (by kernel_rfl)) (by decide) (fun K hK => ?_)
          refine value_ (w1 := ?_) (v := ?_) (by rfl) rfl ?_ ?_
          rotate_left 2
          · go_simp
            constructor
            · rfl
            · rfl
          refine hK.out _ _ ((blk_cell (blk_alloc BMb _) 2).trans rfl) (fun hHeld => ?_)
          clear hK K
          refine norm_ (a' := ?_) ?_ ?_
          rotate_left
          · show Act.put _ (some 40) _ = _
            simp only [Act.put, List.setIfInBounds_toArray, List.set_cons_zero, List.set_cons_succ, i64_w, i32_w]
            rfl
          refine one_ (i := 5) (N := some 41) #[true, true, true, true, true, true, false, false] rfl rfl (one_of HT_.out (by kernel_rfl)) (by decide) (fun K hK => ?_)
          refine Kd.R_append_step k41 (w0 := w) (W := wB) w.heap.size (by rfl) (.tmp 37) (.tmp 40) 24 41 (.agg #[.int .i64 0, .int .u64 0, .int .u64 0]) 24 rfl Try.underlying24 info41_ rfl (by decide) (by decide) (.slice AB ys.length cB) ys x [.int .i64 x.f0, .int .u64 x.f1.f0, .int .u64 x.f1.f1] (fun k => k ≠ w.heap.size + 1 ∧ k ≠ w1.heap.size ∧ k ≠ w.heap.size) (fun _ => False) rfl rfl (k41_mkM _ _ _ x) (fun _ hk => hk.elim) (fun k hk => ?aF) RBb HBb HBb.size (by have := HY.out; omega) ?_
          case aF =>
            have q1 := blk_lt BGb
            have q2 := blk_lt BMb
            have q3 := blk_lt BRb
            exact ⟨by omega, by omega, by omega⟩
          intro v1 wC RBc HBc hg hat
          have BMc := (hg.block _ (blk_lt BMb) (fun e => (RBb.1 _ e.symm).2.1 rfl)).trans BMb
          have BGc := (hg.block _ (blk_lt BGb) (fun e => (RBb.1 _ e.symm).1 rfl)).trans BGb
          have BRc := (hg.block _ (blk_lt BRb) (fun e => (RBb.1 _ e.symm).2.2 rfl)).trans BRb
          clear hg hat BMb BGb BRb RBb HBb hHeld
          obtain ⟨AC, cC, rfl⟩ := Kd.R_slice RBc
          rw [show (ys ++ [x]).length = ys.length + 1 from by simp] at RBc
          refine hK.out _ _ ((blk_cell BMc 2).trans rfl) (fun hHeld => ?_)
          clear hK K
          refine norm_ (a' := ?_) ?_ ?_
          rotate_left
          · show Act.put _ (some 41) _ = _
            simp only [Act.put, List.setIfInBounds_toArray, List.set_cons_zero, List.set_cons_succ, i64_w, i32_w]
            rfl
          refine pure_ (i := 6) (N := some 42) (v := ?_) (a' := ?_) #[true, true, true, true, true, true, true, false] rfl rfl (any_of HT_.out (by kernel_rfl)) (fun _ _ _ h => h) (Or.inl ⟨by rfl, ?_⟩) ?_ ?_
          rotate_left
          · intro w'
            go_simp
            with_reducible rfl
          rotate_left
          · simp only [Act.put, List.setIfInBounds_toArray, List.set_cons_zero, List.set_cons_succ, i64_w, i32_w]
            rfl
          refine last_ (i := 7) (N := none) #[true, true, true, true, true, true, true, true] rfl rfl (one_of HT_.out (by kernel_rfl)) (by decide) (fun K hK => ?_)
          have z2 := (blk_cell BMc 2).trans rfl
          have y2 := blk_frozen BMc 2
          refine skip_ (w1 := ?_) (by rfl) rfl ?_ ?_
          rotate_left
          · go_simp
            rfl
          refine hK.out _ _ ?_
          clear hK K
          refine done_ (done_of HT_.out (by kernel_rfl)) ?_
          have hmw : w.heap.size ≤ w1.heap.size := by omega
          have BMe := Aside0.mk (blk_put BMc 2 (.slice AC (ys.length + 1) cC) (show _ = #[.int .i64 (wrap64 kd), .slice none 0 0, .slice AC (ys.length + 1) cC] from rfl))
          have BGe := Aside0.mk (Fr.blk (Fr.set w1.heap.size 2 (.slice AC (ys.length + 1) cC) wC) BGc (Ne.symm hmg))
          have BRe := Aside0.mk (Fr.blk (Fr.set w1.heap.size 2 (.slice AC (ys.length + 1) cC) wC) BRc hrm)
          have RBe := Aside0.mk (Kd.R_step RBc (fun k hk hlt => (Fr.set w1.heap.size 2 (.slice AC (ys.length + 1) cC) wC).block k hlt hk.2.1))
          have HBe := Aside0.mk (below_put HBc hmw (j := 2) (v := .slice AC (ys.length + 1) cC))
          clear BMc BGc BRc RBc HBc z2 y2
          go_wp2_with fail
          go_roundg k1
          case measure => omega
          case rel => exact ⟨n, nextAt at_, ok2, ys ++ [x], _, by have q1 := HY.out; have q2 := HN.out; rw [IntKind.wrap_u64]; congr 1; omega, ⟨by have := HK.out; have := HN.out; omega⟩, ⟨⟨zs2, HZ2.out, by rw [← HYS.out]; simp⟩⟩, ⟨by have := HE.out; rw [HN.out] at this; exact this⟩, ⟨by have := HY.out; have := HN.out; simp; omega⟩, BGe, BMe, BRe, RBe, HBe⟩
        · have hi : i = 0 := by omega
          have c5b : decide ((0 : Int) < (i : Int)) = false := decide_eq_false (by omega)
          have c5c : decide (0 < i) = false := decide_eq_false c5
          obtain ⟨zs, hz, hys⟩ := HZ.out
          rw [hi, backsAt] at hz
          obtain ⟨rfl, rfl⟩ : [] = zs ∧ okk = okf := by simpa using hz
          rw [List.append_nil] at hys
          subst hys
          have HE2 := HE.out
          rw [hi, endAt] at HE2
          have HH := H.out
          rw [← HE2] at HH
          clear HZ HE HE2 hz hi c5 H
          have gz1 := (blk_cell BG.out 1).trans rfl
          have gz2 := (blk_cell BG.out 2).trans rfl
          have BR_ := BR.out
          have HB_ := HB.out
          obtain ⟨hd, hhd⟩ : ∃ j_ : Int, headAt at_ = j_ := ⟨_, rfl⟩
          (try dsimp only at HH)
          rw [hhd] at HH
          have hhd1 : wrap64 (Int.tdiv (wrap64 (wrap64 (at_ + 8) - 1)) 8) = hd := hhd
          have hhd2 : IntKind.i64.wrap (Int.tdiv (wrap64 (wrap64 (at_ + 8) - 1)) 8) = hd := (i64_w _).trans hhd
          clear hhd
          cases okk with
          | false =>
            rw [if_pos rfl] at HH
            cases HH
            have ez0 := (blk_cell BR_ 0).trans rfl
            have ez1 := (blk_cell BR_ 1).trans rfl
            have ez2 := (blk_cell BR_ 2).trans rfl
            have ey0 := blk_frozen BR_ 0
            have ey1 := blk_frozen BR_ 1
            have ey2 := blk_frozen BR_ 2
            go_wp2_with fail
            have tp0 := blk_put BR_ 0 (.int .i64 0) (show _ = #[.int .i64 0, .slice none 0 0, .slice none 0 0] from rfl)
            have tp1 := blk_put tp0 1 (.slice none 0 0) (show _ = #[.int .i64 0, .slice none 0 0, .slice none 0 0] from rfl)
            have tp2 := blk_put tp1 2 (.slice none 0 0) (show _ = #[.int .i64 0, .slice none 0 0, .slice none 0 0] from rfl)
            refine bodyPost_ret (results_ct rfl _ _ w.heap.size 26 #[.int .i64 0, .slice none 0 0, .slice none 0 0] (0, 0) _ rfl tp2 Try.underlying26 rfl (by kernel_rfl)) rfl ?_
            exact ⟨_, _, rfl, Kd.R_nil _ _ _ _ _, Kd.R_nil _ _ _ _ _, below_set (below_set (below_set HB_ (Nat.le_refl _)) (Nat.le_refl _)) (Nat.le_refl _)⟩
          | true =>
            rw [if_neg (by decide)] at HH
            by_cases e3 : wrap64 ((l0.length : Int) - hd) = wrap64 sz
            · have e3b : (wrap64 ((l0.length : Int) - hd) != wrap64 sz) = false := bne_eq_false_iff_eq.mpr e3
              rw [if_pos e3] at HH
              clear e3
              have hb2 : 0 ≤ hd ∧ hd ≤ (l0.length : Int) := by
                apply Classical.byContradiction
                intro hc
                rw [if_neg hc] at HH
                cases HH
              rw [if_pos hb2] at HH
              obtain ⟨⟨x, xe⟩, henc, HH⟩ := Option.bind_eq_some_iff.mp HH
              (try dsimp only at henc)
              (try dsimp only at HH)
              have HH_ := Aside0.mk HH
              have HENC := Aside0.mk henc
              clear HH henc
              obtain ⟨d_, hd_⟩ : ∃ d_ : Nat, d_ = hd.toNat := ⟨_, rfl⟩
              obtain ⟨i5_, hi5, _, hsz5, _⟩ := info_parts info5
              have hcut := cut_from (P := Try.prog) 23 5 .i64 Try.underlying23 hi5 1 hsz5 (some ad) l0.length c0 hd hb2.1 hb2.2
              have hrd := Kd.C_drop (m := hd.toNat) (c := c0) hr0 (by omega) hc0
              obtain ⟨AS, hAS⟩ : ∃ A1, A1 = (if c0 = hd.toNat then (some ad) else ((some ad) : Option Addr).map (·.add (hd.toNat * 1))) := ⟨_, rfl⟩
              obtain ⟨cS, hcS⟩ : ∃ c1, c1 = c0 - hd.toNat := ⟨_, rfl⟩
              obtain ⟨ds, hds⟩ : ∃ ds, ds = l0.drop hd.toNat := ⟨_, rfl⟩
              rw [← hds] at hrd HENC HH_
              have hlen : ds.length = l0.length - hd.toNat := by rw [hds, List.length_drop]
              replace hrd : Kd.C (Kd.int .u8) w AS ds.length ds := by rw [hAS]; exact hrd
              rw [← hlen, ← hAS, ← hcS] at hcut
              have q1 : (0 ≤ hd) = True := eq_true hb2.1
              have q2 : (hd ≤ (l0.length : Int)) = True := eq_true hb2.2
              have q1b : decide (0 ≤ hd) = true := decide_eq_true hb2.1
              have q2b : decide (hd ≤ (l0.length : Int)) = true := decide_eq_true hb2.2
              have hdl : ds.length ≤ 1000000 := by omega
              have hcc : ds.length ≤ cS := by rw [hlen, hcS]; omega
              have HRD := Aside0.mk hrd
              have HL := Aside0.mk hlen
              clear hrd hlen hcS hAS hds hd_ d_ hb2 hi5 hsz5
              go_wp2_with fail
              go_at_call 19
              refine (cell_Clone.calls AS cS ds (by omega) _ (Kd.C_below HRD.out HB_)).mono ?_
              rintro e wD ⟨vD, rfl, RD, hbD⟩
              obtain ⟨AD, cD, rfl⟩ := Kd.R_slice RD
              have BMD := blk_below BM.out hbD
              have BRD := blk_below BR_ hbD
              have HBD := below_step HB_ hbD
              have RBD := Kd.R_below RB.out hbD
              have RD2 : Kd.R (Kd.int .u8) 5 wD wr.heap.size (fun k => k ≠ w1.heap.size ∧ k ≠ w.heap.size) (.slice AD ds.length cD) ds := Kd.R_mono (Kd.R_bound RD) (fun k hk => by have p1 := blk_lt BM.out; have p2 := blk_lt BR_; have p3 := hk.2.1; exact ⟨by omega, by omega⟩)
              have hmw : w.heap.size ≤ w1.heap.size := by omega
              have hwr := HB_.size
              have mz1 := (blk_cell BMD 1).trans rfl
              have my1 := blk_frozen BMD 1
              have BME := blk_put BMD 1 (.slice AD ds.length cD) (show _ = #[.int .i64 (wrap64 kd), .slice AD ds.length cD, .slice AB ys.length cB] from rfl)
              have BRE := Fr.blk (Fr.set w1.heap.size 1 (.slice AD ds.length cD) wD) BRD hrm
              have HBE := below_put HBD hmw (j := 1) (v := .slice AD ds.length cD)
              have RBE := Kd.R_step RBD (fun k hk hlt => (Fr.set w1.heap.size 1 (.slice AD ds.length cD) wD).block k hlt hk.2.1)
              have RDE := Kd.R_step RD2 (fun k hk hlt => (Fr.set w1.heap.size 1 (.slice AD ds.length cD) wD).block k hlt hk.1)
              clear RBD RD2 RD HBD BMD BRD hbD BM BR RB HB BR_ HB_ BG
              have nz0 := (blk_cell BME 0).trans rfl
              have nz1 := (blk_cell BME 1).trans rfl
              have nz2 := (blk_cell BME 2).trans rfl
              go_wp2_with fail
              go_at_call 8
              refine (cell_Encode.calls k (wrap64 kd) AD cD ds AB cB ys x xe _ (Kd.R_reads' RDE).2.2 (Kd.R_reads' RDE).2.1 (Kd.R_reads' RBE).2.2 (Kd.R_reads' RBE).2.1 HENC.out).mono ?_
              rintro e wF ⟨vX, rfl, RX, hbF⟩
              obtain ⟨AX, cX, rfl⟩ := Kd.R_slice RX
              have BMF := blk_below BME hbF
              have BRF := blk_below BRE hbF
              have HBF := below_step HBE hbF
              have RBF := Kd.R_below RBE hbF
              have RDF := Kd.R_below RDE hbF
              clear RBE RDE HBE BME BRE hbF nz0 nz1 nz2 mz1 my1 gz1 gz2
              by_cases e4 : xe = 0
              · have HH := HH_.out
                rw [if_pos e4] at HH
                subst e4
                clear HH_
                go_wp2_with fail
                go_at_call 20
                refine (bytes_Equal.calls AX cX x (some ad) c0 l0 _ _ (Kd.R_reads' RX).2.2 (Kd.R_reads' RX).2.1 (Kd.C_below hr0 HBF) hc0 rfl).mono ?_
                rintro e wG ⟨rfl, ⟨nd, rfl⟩⟩
                have BMG := blk_drewN BMF nd
                have BRG := blk_drewN BRF nd
                have HBG := pw_below_drewN HBF nd
                have RBG := Kd.R_drewN RBF nd
                have RDG := Kd.R_drewN RDF nd
                clear BMF BRF HBF RBF RDF RX
                generalize wF.drewN nd = wH at BMG BRG HBG RBG RDG ⊢
                by_cases e5 : (strOfNums x).toList = (strOfNums l0).toList
                · have e5b : ((strOfNums x).toList == (strOfNums l0).toList) = true := beq_iff_eq.mpr e5
                  rw [if_pos e5] at HH
                  obtain ⟨rfl, rfl, rfl, rfl⟩ : wrap64 kd = r1 ∧ ds = r2 ∧ ys = r3 ∧ (0 : Int) = r4 := by simpa using HH
                  rw [e5b]
                  clear e5 e5b
                  have nz0 := (blk_cell BMG 0).trans rfl
                  have nz1 := (blk_cell BMG 1).trans rfl
                  have nz2 := (blk_cell BMG 2).trans rfl
                  have ez0 := (blk_cell BRG 0).trans rfl
                  have ez1 := (blk_cell BRG 1).trans rfl
                  have ez2 := (blk_cell BRG 2).trans rfl
                  have ey0 := blk_frozen BRG 0
                  have ey1 := blk_frozen BRG 1
                  have ey2 := blk_frozen BRG 2
                  go_wp2_with fail
                  have tp0 := blk_put BRG 0 (.int .i64 (wrap64 kd)) (show _ = #[.int .i64 (wrap64 kd), .slice none 0 0, .slice none 0 0] from rfl)
                  have tp1 := blk_put tp0 1 (.slice AD ds.length cD) (show _ = #[.int .i64 (wrap64 kd), .slice AD ds.length cD, .slice none 0 0] from rfl)
                  have tp2 := blk_put tp1 2 (.slice AB ys.length cB) (show _ = #[.int .i64 (wrap64 kd), .slice AD ds.length cD, .slice AB ys.length cB] from rfl)
                  refine bodyPost_ret (results_ct rfl _ _ w.heap.size 26 #[.int .i64 (wrap64 kd), .slice AD ds.length cD, .slice AB ys.length cB] (0, 0) _ rfl tp2 Try.underlying26 rfl (by kernel_rfl)) rfl ?_
                  exact ⟨_, _, rfl, Kd.R_mono (Kd.R_lower (Kd.R_step RDG (fun k hk hlt => (Fr.set3 w.heap.size _ _ _ wH).block k hlt hk.2)) hwr) (fun _ _ => trivial), Kd.R_mono (Kd.R_step RBG (fun k hk hlt => (Fr.set3 w.heap.size _ _ _ wH).block k hlt hk.2.2)) (fun _ _ => trivial), below_set (below_set (below_set HBG (Nat.le_refl _)) (Nat.le_refl _)) (Nat.le_refl _)⟩
                · have e5b : ((strOfNums x).toList == (strOfNums l0).toList) = false := beq_eq_false_iff_ne.mpr e5
                  rw [if_neg e5] at HH
                  cases HH
                  rw [e5b]
                  clear e5 e5b
                  have ez0 := (blk_cell BRG 0).trans rfl
                  have ez1 := (blk_cell BRG 1).trans rfl
                  have ez2 := (blk_cell BRG 2).trans rfl
                  have ey0 := blk_frozen BRG 0
                  have ey1 := blk_frozen BRG 1
                  have ey2 := blk_frozen BRG 2
                  go_wp2_with fail
                  have tp0 := blk_put BRG 0 (.int .i64 0) (show _ = #[.int .i64 0, .slice none 0 0, .slice none 0 0] from rfl)
                  have tp1 := blk_put tp0 1 (.slice none 0 0) (show _ = #[.int .i64 0, .slice none 0 0, .slice none 0 0] from rfl)
                  have tp2 := blk_put tp1 2 (.slice none 0 0) (show _ = #[.int .i64 0, .slice none 0 0, .slice none 0 0] from rfl)
                  refine bodyPost_ret (results_ct rfl _ _ w.heap.size 26 #[.int .i64 0, .slice none 0 0, .slice none 0 0] (0, 0) _ rfl tp2 Try.underlying26 rfl (by kernel_rfl)) rfl ?_
                  exact ⟨_, _, rfl, Kd.R_nil _ _ _ _ _, Kd.R_nil _ _ _ _ _, below_set (below_set (below_set HBG (Nat.le_refl _)) (Nat.le_refl _)) (Nat.le_refl _)⟩
              · have e4b : (xe != 0) = true := bne_iff_ne.mpr e4
                have HH := HH_.out
                rw [if_neg e4] at HH
                cases HH
                have e4c := Aside0.mk e4
                clear e4
                have ez0 := (blk_cell BRF 0).trans rfl
                have ez1 := (blk_cell BRF 1).trans rfl
                have ez2 := (blk_cell BRF 2).trans rfl
                have ey0 := blk_frozen BRF 0
                have ey1 := blk_frozen BRF 1
                have ey2 := blk_frozen BRF 2
                go_wp2_with fail
                have tp0 := blk_put BRF 0 (.int .i64 0) (show _ = #[.int .i64 0, .slice none 0 0, .slice none 0 0] from rfl)
                have tp1 := blk_put tp0 1 (.slice none 0 0) (show _ = #[.int .i64 0, .slice none 0 0, .slice none 0 0] from rfl)
                have tp2 := blk_put tp1 2 (.slice none 0 0) (show _ = #[.int .i64 0, .slice none 0 0, .slice none 0 0] from rfl)
                refine bodyPost_ret (results_ct rfl _ _ w.heap.size 26 #[.int .i64 0, .slice none 0 0, .slice none 0 0] (0, 0) _ rfl tp2 Try.underlying26 rfl (by kernel_rfl)) rfl ?_
                exact ⟨_, _, rfl, Kd.R_nil _ _ _ _ _, Kd.R_nil _ _ _ _ _, below_set (below_set (below_set HBF (Nat.le_refl _)) (Nat.le_refl _)) (Nat.le_refl _)⟩
            · have e3b : (wrap64 ((l0.length : Int) - hd) != wrap64 sz) = true := bne_iff_ne.mpr e3
              rw [if_neg e3] at HH
              cases HH
              clear e3
              have ez0 := (blk_cell BR_ 0).trans rfl
              have ez1 := (blk_cell BR_ 1).trans rfl
              have ez2 := (blk_cell BR_ 2).trans rfl
              have ey0 := blk_frozen BR_ 0
              have ey1 := blk_frozen BR_ 1
              have ey2 := blk_frozen BR_ 2
              go_wp2_with fail
              have tp0 := blk_put BR_ 0 (.int .i64 0) (show _ = #[.int .i64 0, .slice none 0 0, .slice none 0 0] from rfl)
              have tp1 := blk_put tp0 1 (.slice none 0 0) (show _ = #[.int .i64 0, .slice none 0 0, .slice none 0 0] from rfl)
              have tp2 := blk_put tp1 2 (.slice none 0 0) (show _ = #[.int .i64 0, .slice none 0 0, .slice none 0 0] from rfl)
              refine bodyPost_ret (results_ct rfl _ _ w.heap.size 26 #[.int .i64 0, .slice none 0 0, .slice none 0 0] (0, 0) _ rfl tp2 Try.underlying26 rfl (by kernel_rfl)) rfl ?_
              exact ⟨_, _, rfl, Kd.R_nil _ _ _ _ _, Kd.R_nil _ _ _ _ _, below_set (below_set (below_set HB_ (Nat.le_refl _)) (Nat.le_refl _)) (Nat.le_refl _)⟩
  · have c1b : ((l0.length : Int) == 1) = false := by simp; omega
    have c1' := Aside0.mk c1
    clear c1
    go_enter Try.func10, Try.ntmps10
    go_wp2_with fail
    go_at_call 17
    refine (cell_number.calls A0 c0 l0 0 2 true kd o1 (w.heap.size + 1) w _ hr0 hc0 HBa (Nat.le_succ _) (blk_new2 w (.cells #[.int .i64 0, .slice none 0 0, .slice none 0 0] 26) (.cells #[.slice A0 l0.length c0, .int .i64 0, .bool true] 50)) h0).mono ?_
    rintro e w1 ⟨rfl, hg_, hf1⟩
    have BG1 : w1.heap[(w.heap.size + 1)]? = some (.cells #[.slice A0 l0.length c0, .int .i64 2, .bool o1] 50) := by rw [show wrap64 (0 + 2) = 2 from by unfold wrap64; omega] at hg_; exact hg_
    clear hg_
    have hs1 : w.heap.size + 1 + 1 ≤ w1.heap.size := by have := hf1.size; rwa [alloc_size, alloc_size] at this
    have hmg : w1.heap.size ≠ w.heap.size + 1 := by omega
    have hrg : w.heap.size ≠ w.heap.size + 1 := by omega
    have hrm : w.heap.size ≠ w1.heap.size := by omega
    have HB1 := Fr.below HBa (Nat.le_succ _) hf1
    have BR1 := Fr.blk hf1 (blk_alloc (blk_new w (.cells #[.int .i64 0, .slice none 0 0, .slice none 0 0] 26)) (.cells #[.slice A0 l0.length c0, .int .i64 0, .bool true] 50)) hrg
    clear hf1
    have HB1a := below_alloc HB1 (.cells #[.int .i64 (wrap64 kd), .slice none 0 0, .slice none 0 0] 26)
    have BG1a := blk_alloc BG1 (.cells #[.int .i64 (wrap64 kd), .slice none 0 0, .slice none 0 0] 26)
    have BR1a := blk_alloc BR1 (.cells #[.int .i64 (wrap64 kd), .slice none 0 0, .slice none 0 0] 26)
    have BM1a := blk_new w1 (.cells #[.int .i64 (wrap64 kd), .slice none 0 0, .slice none 0 0] 26)
    clear HB1 BG1 BR1
    go_wp2_with fail
    go_at_call 17
    refine (cell_number.calls A0 c0 l0 2 3 o1 (i0 : Int) o2 (w.heap.size + 1) w _ hr0 hc0 HB1a (Nat.le_succ _) BG1a h1).mono ?_
    rintro e w2 ⟨rfl, hg_, hf2⟩
    have BG2 : w2.heap[(w.heap.size + 1)]? = some (.cells #[.slice A0 l0.length c0, .int .i64 5, .bool o2] 50) := by rw [show wrap64 (2 + 3) = 5 from by unfold wrap64; omega] at hg_; exact hg_
    clear hg_
    have HB2 := Fr.below HB1a (Nat.le_succ _) hf2
    have BR2 := Fr.blk hf2 BR1a hrg
    have BM2 := Fr.blk hf2 BM1a hmg
    clear hf2 HB1a BG1a BR1a BM1a
    go_wp2_with fail
    go_at_call 17
    refine (cell_number.calls A0 c0 l0 5 7 o2 sz o3 (w.heap.size + 1) w _ hr0 hc0 HB2 (Nat.le_succ _) BG2 h2).mono ?_
    rintro e w3 ⟨rfl, hg_, hf3⟩
    have BG3 : w3.heap[(w.heap.size + 1)]? = some (.cells #[.slice A0 l0.length c0, .int .i64 12, .bool o3] 50) := by rw [show wrap64 (5 + 7) = 12 from by unfold wrap64; omega] at hg_; exact hg_
    clear hg_
    have HB3 := Fr.below HB2 (Nat.le_succ _) hf3
    have BR3 := Fr.blk hf3 BR2 hrg
    have BM3 := Fr.blk hf3 BM2 hmg
    clear hf3 HB2 BG2 BR2 BM2
    go_wp2_with fail
    go_loopg [6] (i0 + 1) (fun kq v6 w' => ∃ (i : Nat) (at_ : Int) (okk : Bool) (ys : List S41) (vB : Value), v6 = .int .u64 (i : Int) ∧ Aside0 (kq = i + 1) ∧ Aside0 (∃ zs, backsAt l0 i at_ okk = some (zs, okf) ∧ ys ++ zs = BS) ∧ Aside0 (endAt i at_ = endAt i0 12) ∧ Aside0 (ys.length + i = i0) ∧ Aside0 (w'.heap[(w.heap.size + 1)]? = some (.cells #[.slice A0 l0.length c0, .int .i64 at_, .bool okk] 50 (0, 0))) ∧ Aside0 (w'.heap[w1.heap.size]? = some (.cells #[.int .i64 (wrap64 kd), .slice none 0 0, vB] 26 (0, 0))) ∧ Aside0 (w'.heap[w.heap.size]? = some (.cells #[.int .i64 0, .slice none 0 0, .slice none 0 0] 26 (0, 0))) ∧ Aside0 (Kd.R k41 41 w' w.heap.size (fun k => k ≠ w.heap.size + 1 ∧ k ≠ w1.heap.size ∧ k ≠ w.heap.size) vB ys) ∧ Aside0 (Below w.heap.size w w'))
    case atStart => exact ⟨i0, 12, o3, [], .slice none 0 0, rfl, ⟨rfl⟩, ⟨⟨BS, h3, rfl⟩⟩, ⟨rfl⟩, ⟨Nat.zero_add _⟩, ⟨BG3⟩, ⟨BM3⟩, ⟨BR3⟩, ⟨Kd.R_nil _ _ _ _ _⟩, ⟨HB3⟩⟩
    case round =>
      obtain ⟨i, at_, okk, ys, vB, rfl, HK, HZ, HE, HY, BG, BM, BR, RB, HB⟩ := hrel
      clear BG3 BM3 BR3 HB3
      obtain ⟨AB, cB, rfl⟩ := Kd.R_slice RB.out
      cases gk with
      | zero => have := HK.out; omega
      | succ k1 =>
        by_cases c5 : 0 < i
        · have c5b : decide ((0 : Int) < (i : Int)) = true := decide_eq_true (by omega)
          have c5c : decide (0 < i) = true := decide_eq_true c5
          obtain ⟨n, hn⟩ : ∃ n, i = n + 1 := ⟨i - 1, by omega⟩
          have HN := Aside0.mk hn
          obtain ⟨zs, hz, hys⟩ := HZ.out
          rw [hn, backsAt] at hz
          clear hn c5 HZ
          obtain ⟨⟨x, ok2⟩, hbk, hz⟩ := Option.bind_eq_some_iff.mp hz
          obtain ⟨⟨zs2, okg⟩, hz2, hz⟩ := Option.bind_eq_some_iff.mp hz
          obtain ⟨rfl, rfl⟩ : x :: zs2 = zs ∧ okg = okf := by simpa using hz
          have HZ2 := Aside0.mk hz2
          have HYS := Aside0.mk hys
          clear hz hz2 hys
          go_upto_region 8 with fail
          (try simp only [Act.put, List.setIfInBounds_toArray, List.set_cons_zero, List.set_cons_succ])
          have BMd := blk_drew BM.out
          refine start_ (n := 8) (S := fun w' => w'.cell? ⟨w1.heap.size, 2, none⟩ = some (.slice AB ys.length cB)) (ds := [7]) #[false, false, false, false, false, false, false, false] (by kernel_rfl) rfl rfl ((blk_cell BMd 2).trans rfl) (fun hHeld => ?_)
          have HT_ := Aside0.mk cell_Decode.tab8
          have BGd := blk_drew BG.out
          have BRd := blk_drew BR.out
          have RBd := Kd.R_drew RB.out
          have HBd := below_drew1 HB.out
          clear BG BM BR RB HB
          generalize wr.drew = wd at hHeld BMd BGd BRd RBd HBd ⊢
          refine pure_ (i := 0) (N := some 36) (v := ?_) (a' := ?_) #[true, false, false, false, false, false, false, false] rfl rfl (any_of HT_.out (by kernel_rfl)) (fun _ _ _ h => h) (Or.inl ⟨by rfl, ?_⟩) ?_ ?_
          rotate_left
          · intro w'
            go_simp
            with_reducible rfl
          rotate_left
          · simp only [Act.put, List.setIfInBounds_toArray, List.set_cons_zero, List.set_cons_succ, i64_w, i32_w]
            rfl
          refine take_ (i := 1) (N := some 37) (v := ?_) (a' := ?_) #[true, true, false, false, false, false, false, false] rfl rfl (take_of HT_.out (by kernel_rfl)) (fun _ _ _ h => h) (Or.inl ⟨by rfl, ?_⟩) hHeld ?_ ?_
          rotate_left
          · rintro w' s0
            go_simp
            with_reducible rfl
          rotate_left
          · simp only [Act.put, List.setIfInBounds_toArray, List.set_cons_zero, List.set_cons_succ, i64_w, i32_w]
            rfl
          refine pure_ (i := 2) (N := some 38) (v := ?_) (a' := ?_) #[true, true, true, false, false, false, false, false] rfl rfl (any_of HT_.out (by kernel_rfl)) (fun _ _ _ h => h) (Or.inl ⟨by rfl, ?_⟩) ?_ ?_
          rotate_left
          · intro w'
            go_simp
            with_reducible rfl
          rotate_left
          · simp only [Act.put, List.setIfInBounds_toArray, List.set_cons_zero, List.set_cons_succ, i64_w, i32_w]
            rfl
          refine one_ (i := 3) (N := some 39) #[true, true, true, true, false, false, false, false] rfl rfl (one_of HT_.out (by kernel_rfl)) (by decide) (fun K hK => ?_)
          refine goes_ Try.func18 (by kernel_rfl) rfl #[.pointer (some ⟨(w.heap.size + 1), 0, none⟩)] (by rfl) rfl rfl (by (try simp only [List.map_toArray, List.map_cons, List.map_nil]); first | done | rfl) ?_
          refine (cell_back.calls A0 c0 l0 at_ okk x ok2 (w.heap.size + 1) w wd hr0 hc0 HBd (Nat.le_succ _) BGd hbk).mono ?_
          rintro e wB ⟨rfl, BGb, hfB⟩
          refine ⟨_, rfl, ?_⟩
          have BMb := Fr.blk hfB BMd hmg
          have BRb := Fr.blk hfB BRd hrg
          have RBb := Kd.R_step RBd (fun k hk hlt => hfB.block k hlt hk.1)
          have HBb := Fr.below HBd (Nat.le_succ _) hfB
          clear hfB BMd BRd RBd HBd BGd hHeld
          refine hK.out _ _ ((blk_cell BMb 2).trans rfl) (fun hHeld => ?_)
          clear hK K
          refine norm_ (a' := ?_) ?_ ?_
          rotate_left
          · show Act.put _ (some 39) _ = _
            simp only [Act.put, List.setIfInBounds_toArray, List.set_cons_zero, List.set_cons_succ, i64_w, i32_w]
            rfl
          refine one_ (i := 4) (N := some 40) #[true, true, true, true, true, false, false, false] rfl rfl (one_of HT_.out (by kernel_rfl)) (by decide) (fun K hK => ?_)
          refine value_ (w1 := ?_) (v := ?_) (by rfl) rfl ?_ ?_
          rotate_left 2
          · go_simp
            constructor
            · rfl
            · rfl
          refine hK.out _ _ ((blk_cell (blk_alloc BMb _) 2).trans rfl) (fun hHeld => ?_)
          clear hK K
          refine norm_ (a' := ?_) ?_ ?_
          rotate_left
          · show Act.put _ (some 40) _ = _
            simp only [Act.put, List.setIfInBounds_toArray, List.set_cons_zero, List.set_cons_succ, i64_w, i32_w]
            rfl
          refine one_ (i := 5) (N := some 41) #[true, true, true, true, true, true, false, false] rfl rfl (one_of HT_.out (by kernel_rfl)) (by decide) (fun K hK => ?_)
          refine Kd.R_append_step k41 (w0 := w) (W := wB) w.heap.size (by rfl) (.tmp 37) (.tmp 40) 24 41 (.agg #[.int .i64 0, .int .u64 0, .int .u64 0]) 24 rfl Try.underlying24 info41_ rfl (by decide) (by decide) (.slice AB ys.length cB) ys x [.int .i64 x.f0, .int .u64 x.f1.f0, .int .u64 x.f1.f1] (fun k => k ≠ w.heap.size + 1 ∧ k ≠ w1.heap.size ∧ k ≠ w.heap.size) (fun _ => False) rfl rfl (k41_mkM _ _ _ x) (fun _ hk => hk.elim) (fun k hk => ?aF) RBb HBb HBb.size (by have := HY.out; omega) ?_
          case aF =>
            have q1 := blk_lt BGb
            have q2 := blk_lt BMb
            have q3 := blk_lt BRb
            exact ⟨by omega, by omega, by omega⟩
          intro v1 wC RBc HBc hg hat
          have BMc := (hg.block _ (blk_lt BMb) (fun e => (RBb.1 _ e.symm).2.1 rfl)).trans BMb
          have BGc := (hg.block _ (blk_lt BGb) (fun e => (RBb.1 _ e.symm).1 rfl)).trans BGb
          have BRc := (hg.block _ (blk_lt BRb) (fun e => (RBb.1 _ e.symm).2.2 rfl)).trans BRb
          clear hg hat BMb BGb BRb RBb HBb hHeld
          obtain ⟨AC, cC, rfl⟩ := Kd.R_slice RBc
          rw [show (ys ++ [x]).length = ys.length + 1 from by simp] at RBc
          refine hK.out _ _ ((blk_cell BMc 2).trans rfl) (fun hHeld => ?_)
          clear hK K
          refine norm_ (a' := ?_) ?_ ?_
          rotate_left
          · show Act.put _ (some 41) _ = _
            simp only [Act.put, List.setIfInBounds_toArray, List.set_cons_zero, List.set_cons_succ, i64_w, i32_w]
            rfl
          refine pure_ (i := 6) (N := some 42) (v := ?_) (a' := ?_) #[true, true, true, true, true, true, true, false] rfl rfl (any_of HT_.out (by kernel_rfl)) (fun _ _ _ h => h) (Or.inl ⟨by rfl, ?_⟩) ?_ ?_
          rotate_left
          · intro w'
            go_simp
            with_reducible rfl
          rotate_left
          · simp only [Act.put, List.setIfInBounds_toArray, List.set_cons_zero, List.set_cons_succ, i64_w, i32_w]
            rfl
          refine last_ (i := 7) (N := none) #[true, true, true, true, true, true, true, true] rfl rfl (one_of HT_.out (by kernel_rfl)) (by decide) (fun K hK => ?_)
          have z2 := (blk_cell BMc 2).trans rfl
          have y2 := blk_frozen BMc 2
          refine skip_ (w1 := ?_) (by rfl) rfl ?_ ?_
          rotate_left
          · go_simp
            rfl
          refine hK.out _ _ ?_
          clear hK K
          refine done_ (done_of HT_.out (by kernel_rfl)) ?_
          have hmw : w.heap.size ≤ w1.heap.size := by omega
          have BMe := Aside0.mk (blk_put BMc 2 (.slice AC (ys.length + 1) cC) (show _ = #[.int .i64 (wrap64 kd), .slice none 0 0, .slice AC (ys.length + 1) cC] from rfl))
          have BGe := Aside0.mk (Fr.blk (Fr.set w1.heap.size 2 (.slice AC (ys.length + 1) cC) wC) BGc (Ne.symm hmg))
          have BRe := Aside0.mk (Fr.blk (Fr.set w1.heap.size 2 (.slice AC (ys.length + 1) cC) wC) BRc hrm)
          have RBe := Aside0.mk (Kd.R_step RBc (fun k hk hlt => (Fr.set w1.heap.size 2 (.slice AC (ys.length + 1) cC) wC).block k hlt hk.2.1))
          have HBe := Aside0.mk (below_put HBc hmw (j := 2) (v := .slice AC (ys.length + 1) cC))
          clear BMc BGc BRc RBc HBc z2 y2
          go_wp2_with fail
          go_roundg k1
          case measure => omega
          case rel => exact ⟨n, nextAt at_, ok2, ys ++ [x], _, by have q1 := HY.out; have q2 := HN.out; rw [IntKind.wrap_u64]; congr 1; omega, ⟨by have := HK.out; have := HN.out; omega⟩, ⟨⟨zs2, HZ2.out, by rw [← HYS.out]; simp⟩⟩, ⟨by have := HE.out; rw [HN.out] at this; exact this⟩, ⟨by have := HY.out; have := HN.out; simp; omega⟩, BGe, BMe, BRe, RBe, HBe⟩
        · have hi : i = 0 := by omega
          have c5b : decide ((0 : Int) < (i : Int)) = false := decide_eq_false (by omega)
          have c5c : decide (0 < i) = false := decide_eq_false c5
          obtain ⟨zs, hz, hys⟩ := HZ.out
          rw [hi, backsAt] at hz
          obtain ⟨rfl, rfl⟩ : [] = zs ∧ okk = okf := by simpa using hz
          rw [List.append_nil] at hys
          subst hys
          have HE2 := HE.out
          rw [hi, endAt] at HE2
          have HH := H.out
          rw [← HE2] at HH
          clear HZ HE HE2 hz hi c5 H
          have gz1 := (blk_cell BG.out 1).trans rfl
          have gz2 := (blk_cell BG.out 2).trans rfl
          have BR_ := BR.out
          have HB_ := HB.out
          obtain ⟨hd, hhd⟩ : ∃ j_ : Int, headAt at_ = j_ := ⟨_, rfl⟩
          (try dsimp only at HH)
          rw [hhd] at HH
          have hhd1 : wrap64 (Int.tdiv (wrap64 (wrap64 (at_ + 8) - 1)) 8) = hd := hhd
          have hhd2 : IntKind.i64.wrap (Int.tdiv (wrap64 (wrap64 (at_ + 8) - 1)) 8) = hd := (i64_w _).trans hhd
          clear hhd
          cases okk with
          | false =>
            rw [if_pos rfl] at HH
            cases HH
            have ez0 := (blk_cell BR_ 0).trans rfl
            have ez1 := (blk_cell BR_ 1).trans rfl
            have ez2 := (blk_cell BR_ 2).trans rfl
            have ey0 := blk_frozen BR_ 0
            have ey1 := blk_frozen BR_ 1
            have ey2 := blk_frozen BR_ 2
            go_wp2_with fail
            have tp0 := blk_put BR_ 0 (.int .i64 0) (show _ = #[.int .i64 0, .slice none 0 0, .slice none 0 0] from rfl)
            have tp1 := blk_put tp0 1 (.slice none 0 0) (show _ = #[.int .i64 0, .slice none 0 0, .slice none 0 0] from rfl)
            have tp2 := blk_put tp1 2 (.slice none 0 0) (show _ = #[.int .i64 0, .slice none 0 0, .slice none 0 0] from rfl)
            refine bodyPost_ret (results_ct rfl _ _ w.heap.size 26 #[.int .i64 0, .slice none 0 0, .slice none 0 0] (0, 0) _ rfl tp2 Try.underlying26 rfl (by kernel_rfl)) rfl ?_
            exact ⟨_, _, rfl, Kd.R_nil _ _ _ _ _, Kd.R_nil _ _ _ _ _, below_set (below_set (below_set HB_ (Nat.le_refl _)) (Nat.le_refl _)) (Nat.le_refl _)⟩
          | true =>
            rw [if_neg (by decide)] at HH
            by_cases e3 : wrap64 ((l0.length : Int) - hd) = wrap64 sz
            · have e3b : (wrap64 ((l0.length : Int) - hd) != wrap64 sz) = false := bne_eq_false_iff_eq.mpr e3
              rw [if_pos e3] at HH
              clear e3
              have hb2 : 0 ≤ hd ∧ hd ≤ (l0.length : Int) := by
                apply Classical.byContradiction
                intro hc
                rw [if_neg hc] at HH
                cases HH
              rw [if_pos hb2] at HH
              obtain ⟨⟨x, xe⟩, henc, HH⟩ := Option.bind_eq_some_iff.mp HH
              (try dsimp only at henc)
              (try dsimp only at HH)
              have HH_ := Aside0.mk HH
              have HENC := Aside0.mk henc
              clear HH henc
              obtain ⟨d_, hd_⟩ : ∃ d_ : Nat, d_ = hd.toNat := ⟨_, rfl⟩
              obtain ⟨i5_, hi5, _, hsz5, _⟩ := info_parts info5
              have hcut := cut_from (P := Try.prog) 23 5 .i64 Try.underlying23 hi5 1 hsz5 A0 l0.length c0 hd hb2.1 hb2.2
              have hrd := Kd.C_drop (m := hd.toNat) (c := c0) hr0 (by omega) hc0
              obtain ⟨AS, hAS⟩ : ∃ A1, A1 = (if c0 = hd.toNat then A0 else (A0 : Option Addr).map (·.add (hd.toNat * 1))) := ⟨_, rfl⟩
              obtain ⟨cS, hcS⟩ : ∃ c1, c1 = c0 - hd.toNat := ⟨_, rfl⟩
              obtain ⟨ds, hds⟩ : ∃ ds, ds = l0.drop hd.toNat := ⟨_, rfl⟩
              rw [← hds] at hrd HENC HH_
              have hlen : ds.length = l0.length - hd.toNat := by rw [hds, List.length_drop]
              replace hrd : Kd.C (Kd.int .u8) w AS ds.length ds := by rw [hAS]; exact hrd
              rw [← hlen, ← hAS, ← hcS] at hcut
              have q1 : (0 ≤ hd) = True := eq_true hb2.1
              have q2 : (hd ≤ (l0.length : Int)) = True := eq_true hb2.2
              have q1b : decide (0 ≤ hd) = true := decide_eq_true hb2.1
              have q2b : decide (hd ≤ (l0.length : Int)) = true := decide_eq_true hb2.2
              have hdl : ds.length ≤ 1000000 := by omega
              have hcc : ds.length ≤ cS := by rw [hlen, hcS]; omega
              have HRD := Aside0.mk hrd
              have HL := Aside0.mk hlen
              clear hrd hlen hcS hAS hds hd_ d_ hb2 hi5 hsz5
              go_wp2_with fail
              go_at_call 19
              refine (cell_Clone.calls AS cS ds (by omega) _ (Kd.C_below HRD.out HB_)).mono ?_
              rintro e wD ⟨vD, rfl, RD, hbD⟩
              obtain ⟨AD, cD, rfl⟩ := Kd.R_slice RD
              have BMD := blk_below BM.out hbD
              have BRD := blk_below BR_ hbD
              have HBD := below_step HB_ hbD
              have RBD := Kd.R_below RB.out hbD
              have RD2 : Kd.R (Kd.int .u8) 5 wD wr.heap.size (fun k => k ≠ w1.heap.size ∧ k ≠ w.heap.size) (.slice AD ds.length cD) ds := Kd.R_mono (Kd.R_bound RD) (fun k hk => by have p1 := blk_lt BM.out; have p2 := blk_lt BR_; have p3 := hk.2.1; exact ⟨by omega, by omega⟩)
              have hmw : w.heap.size ≤ w1.heap.size := by omega
              have hwr := HB_.size
              have mz1 := (blk_cell BMD 1).trans rfl
              have my1 := blk_frozen BMD 1
              have BME := blk_put BMD 1 (.slice AD ds.length cD) (show _ = #[.int .i64 (wrap64 kd), .slice AD ds.length cD, .slice AB ys.length cB] from rfl)
              have BRE := Fr.blk (Fr.set w1.heap.size 1 (.slice AD ds.length cD) wD) BRD hrm
              have HBE := below_put HBD hmw (j := 1) (v := .slice AD ds.length cD)
              have RBE := Kd.R_step RBD (fun k hk hlt => (Fr.set w1.heap.size 1 (.slice AD ds.length cD) wD).block k hlt hk.2.1)
              have RDE := Kd.R_step RD2 (fun k hk hlt => (Fr.set w1.heap.size 1 (.slice AD ds.length cD) wD).block k hlt hk.1)
              clear RBD RD2 RD HBD BMD BRD hbD BM BR RB HB BR_ HB_ BG
              have nz0 := (blk_cell BME 0).trans rfl
              have nz1 := (blk_cell BME 1).trans rfl
              have nz2 := (blk_cell BME 2).trans rfl
              go_wp2_with fail
              go_at_call 8
              refine (cell_Encode.calls k (wrap64 kd) AD cD ds AB cB ys x xe _ (Kd.R_reads' RDE).2.2 (Kd.R_reads' RDE).2.1 (Kd.R_reads' RBE).2.2 (Kd.R_reads' RBE).2.1 HENC.out).mono ?_
              rintro e wF ⟨vX, rfl, RX, hbF⟩
              obtain ⟨AX, cX, rfl⟩ := Kd.R_slice RX
              have BMF := blk_below BME hbF
              have BRF := blk_below BRE hbF
              have HBF := below_step HBE hbF
              have RBF := Kd.R_below RBE hbF
              have RDF := Kd.R_below RDE hbF
              clear RBE RDE HBE BME BRE hbF nz0 nz1 nz2 mz1 my1 gz1 gz2
              by_cases e4 : xe = 0
              · have HH := HH_.out
                rw [if_pos e4] at HH
                subst e4
                clear HH_
                go_wp2_with fail
                go_at_call 20
                refine (bytes_Equal.calls AX cX x A0 c0 l0 _ _ (Kd.R_reads' RX).2.2 (Kd.R_reads' RX).2.1 (Kd.C_below hr0 HBF) hc0 rfl).mono ?_
                rintro e wG ⟨rfl, ⟨nd, rfl⟩⟩
                have BMG := blk_drewN BMF nd
                have BRG := blk_drewN BRF nd
                have HBG := pw_below_drewN HBF nd
                have RBG := Kd.R_drewN RBF nd
                have RDG := Kd.R_drewN RDF nd
                clear BMF BRF HBF RBF RDF RX
                generalize wF.drewN nd = wH at BMG BRG HBG RBG RDG ⊢
                by_cases e5 : (strOfNums x).toList = (strOfNums l0).toList
                · have e5b : ((strOfNums x).toList == (strOfNums l0).toList) = true := beq_iff_eq.mpr e5
                  rw [if_pos e5] at HH
                  obtain ⟨rfl, rfl, rfl, rfl⟩ : wrap64 kd = r1 ∧ ds = r2 ∧ ys = r3 ∧ (0 : Int) = r4 := by simpa using HH
                  rw [e5b]
                  clear e5 e5b
                  have nz0 := (blk_cell BMG 0).trans rfl
                  have nz1 := (blk_cell BMG 1).trans rfl
                  have nz2 := (blk_cell BMG 2).trans rfl
                  have ez0 := (blk_cell BRG 0).trans rfl
                  have ez1 := (blk_cell BRG 1).trans rfl
                  have ez2 := (blk_cell BRG 2).trans rfl
                  have ey0 := blk_frozen BRG 0
                  have ey1 := blk_frozen BRG 1
                  have ey2 := blk_frozen BRG 2
                  go_wp2_with fail
                  have tp0 := blk_put BRG 0 (.int .i64 (wrap64 kd)) (show _ = #[.int .i64 (wrap64 kd), .slice none 0 0, .slice none 0 0] from rfl)
                  have tp1 := blk_put tp0 1 (.slice AD ds.length cD) (show _ = #[.int .i64 (wrap64 kd), .slice AD ds.length cD, .slice none 0 0] from rfl)
                  have tp2 := blk_put tp1 2 (.slice AB ys.length cB) (show _ = #[.int .i64 (wrap64 kd), .slice AD ds.length cD, .slice AB ys.length cB] from rfl)
                  refine bodyPost_ret (results_ct rfl _ _ w.heap.size 26 #[.int .i64 (wrap64 kd), .slice AD ds.length cD, .slice AB ys.length cB] (0, 0) _ rfl tp2 Try.underlying26 rfl (by kernel_rfl)) rfl ?_
                  exact ⟨_, _, rfl, Kd.R_mono (Kd.R_lower (Kd.R_step RDG (fun k hk hlt => (Fr.set3 w.heap.size _ _ _ wH).block k hlt hk.2)) hwr) (fun _ _ => trivial), Kd.R_mono (Kd.R_step RBG (fun k hk hlt => (Fr.set3 w.heap.size _ _ _ wH).block k hlt hk.2.2)) (fun _ _ => trivial), below_set (below_set (below_set HBG (Nat.le_refl _)) (Nat.le_refl _)) (Nat.le_refl _)⟩
                · have e5b : ((strOfNums x).toList == (strOfNums l0).toList) = false := beq_eq_false_iff_ne.mpr e5
                  rw [if_neg e5] at HH
                  cases HH
                  rw [e5b]
                  clear e5 e5b
                  have ez0 := (blk_cell BRG 0).trans rfl
                  have ez1 := (blk_cell BRG 1).trans rfl
                  have ez2 := (blk_cell BRG 2).trans rfl
                  have ey0 := blk_frozen BRG 0
                  have ey1 := blk_frozen BRG 1
                  have ey2 := blk_frozen BRG 2
                  go_wp2_with fail
                  have tp0 := blk_put BRG 0 (.int .i64 0) (show _ = #[.int .i64 0, .slice none 0 0, .slice none 0 0] from rfl)
                  have tp1 := blk_put tp0 1 (.slice none 0 0) (show _ = #[.int .i64 0, .slice none 0 0, .slice none 0 0] from rfl)
                  have tp2 := blk_put tp1 2 (.slice none 0 0) (show _ = #[.int .i64 0, .slice none 0 0, .slice none 0 0] from rfl)
                  refine bodyPost_ret (results_ct rfl _ _ w.heap.size 26 #[.int .i64 0, .slice none 0 0, .slice none 0 0] (0, 0) _ rfl tp2 Try.underlying26 rfl (by kernel_rfl)) rfl ?_
                  exact ⟨_, _, rfl, Kd.R_nil _ _ _ _ _, Kd.R_nil _ _ _ _ _, below_set (below_set (below_set HBG (Nat.le_refl _)) (Nat.le_refl _)) (Nat.le_refl _)⟩
              · have e4b : (xe != 0) = true := bne_iff_ne.mpr e4
                have HH := HH_.out
                rw [if_neg e4] at HH
                cases HH
                have e4c := Aside0.mk e4
                clear e4
                have ez0 := (blk_cell BRF 0).trans rfl
                have ez1 := (blk_cell BRF 1).trans rfl
                have ez2 := (blk_cell BRF 2).trans rfl
                have ey0 := blk_frozen BRF 0
                have ey1 := blk_frozen BRF 1
                have ey2 := blk_frozen BRF 2
                go_wp2_with fail
                have tp0 := blk_put BRF 0 (.int .i64 0) (show _ = #[.int .i64 0, .slice none 0 0, .slice none 0 0] from rfl)
                have tp1 := blk_put tp0 1 (.slice none 0 0) (show _ = #[.int .i64 0, .slice none 0 0, .slice none 0 0] from rfl)
                have tp2 := blk_put tp1 2 (.slice none 0 0) (show _ = #[.int .i64 0, .slice none 0 0, .slice none 0 0] from rfl)
                refine bodyPost_ret (results_ct rfl _ _ w.heap.size 26 #[.int .i64 0, .slice none 0 0, .slice none 0 0] (0, 0) _ rfl tp2 Try.underlying26 rfl (by kernel_rfl)) rfl ?_
                exact ⟨_, _, rfl, Kd.R_nil _ _ _ _ _, Kd.R_nil _ _ _ _ _, below_set (below_set (below_set HBF (Nat.le_refl _)) (Nat.le_refl _)) (Nat.le_refl _)⟩
            · have e3b : (wrap64 ((l0.length : Int) - hd) != wrap64 sz) = true := bne_iff_ne.mpr e3
              rw [if_neg e3] at HH
              cases HH
              clear e3
              have ez0 := (blk_cell BR_ 0).trans rfl
              have ez1 := (blk_cell BR_ 1).trans rfl
              have ez2 := (blk_cell BR_ 2).trans rfl
              have ey0 := blk_frozen BR_ 0
              have ey1 := blk_frozen BR_ 1
              have ey2 := blk_frozen BR_ 2
              go_wp2_with fail
              have tp0 := blk_put BR_ 0 (.int .i64 0) (show _ = #[.int .i64 0, .slice none 0 0, .slice none 0 0] from rfl)
              have tp1 := blk_put tp0 1 (.slice none 0 0) (show _ = #[.int .i64 0, .slice none 0 0, .slice none 0 0] from rfl)
              have tp2 := blk_put tp1 2 (.slice none 0 0) (show _ = #[.int .i64 0, .slice none 0 0, .slice none 0 0] from rfl)
              refine bodyPost_ret (results_ct rfl _ _ w.heap.size 26 #[.int .i64 0, .slice none 0 0, .slice none 0 0] (0, 0) _ rfl tp2 Try.underlying26 rfl (by kernel_rfl)) rfl ?_
              exact ⟨_, _, rfl, Kd.R_nil _ _ _ _ _, Kd.R_nil _ _ _ _ _, below_set (below_set (below_set HB_ (Nat.le_refl _)) (Nat.le_refl _)) (Nat.le_refl _)⟩
end Go.Proofs.Ytknjhmclnnjbnaa.Fn
