/- The walks of reader.number, reader.back and Decode, by hand; conditions: as each theorem names them. -/
import Derived.Test.YtknjhmclnnjbnaaFn3
namespace Go.Proofs.Ytknjhmclnnjbnaa.Fn
open Go.RowKit Go.Proofs.YtknjhmclnnjbnaaW.PrintWords Go.Proofs.YtknjhmclnnjbnaaW.PrintLast Go.Proofs.YtknjhmclnnjbnaaW.PrintMore
attribute [local go_sem] max2_int min2_int max_two min_two max_three min_three max_four min_four
set_option linter.unusedVariables false
set_option linter.unusedSimpArgs false
/-- All but the block g stays as it was. -/
structure Fr (g : Nat) (w w' : World) : Prop where
  os : w'.os = w.os
  tape : w'.tape = w.tape
  output : w'.output = w.output
  size : w.heap.size ≤ w'.heap.size
  block : ∀ k, k < w.heap.size → k ≠ g → w'.heap[k]? = w.heap[k]?
theorem Fr.refl (g : Nat) (w : World) : Fr g w w := ⟨rfl, rfl, rfl, Nat.le_refl _, fun _ _ _ => rfl⟩
theorem Fr.trans {g : Nat} {a b c : World} (h : Fr g a b) (k : Fr g b c) : Fr g a c :=
  ⟨k.os.trans h.os, k.tape.trans h.tape, k.output.trans h.output, Nat.le_trans h.size k.size, fun i hi hg => (k.block i (Nat.lt_of_lt_of_le hi h.size) hg).trans (h.block i hi hg)⟩
theorem Fr.of_below {g : Nat} {w w' : World} (h : Below w.heap.size w w') : Fr g w w' := ⟨h.os, h.tape, h.output, h.size, fun k hk _ => h.block k hk⟩
theorem Fr.set (g j : Nat) (v : Value) (w : World) : Fr g w (w.setCell ⟨g, j, none⟩ v) := by
  have h1 : Below g w (w.setCell ⟨g, j, none⟩ v) := (Below.refl g w).setCell (Nat.le_refl _) _
  refine ⟨h1.os, h1.tape, h1.output, h1.size, fun k hk hg => ?_⟩
  exact (KeepBut.set_ (KeepBut.refl w g none) j v).2 k hk hg (by simp)
theorem Fr.below {g : Nat} {w0 w w' : World} (hb : Below w0.heap.size w0 w) (hg : w0.heap.size ≤ g) (h : Fr g w w') : Below w0.heap.size w0 w' :=
  ⟨h.os.trans hb.os, h.tape.trans hb.tape, h.output.trans hb.output, Nat.le_trans hb.size h.size, fun k hk => (h.block k (Nat.lt_of_lt_of_le hk hb.size) (by omega)).trans (hb.block k hk)⟩
theorem Fr.blk {g g' : Nat} {w w' : World} {ob : Obj} (h : Fr g w w') (hb : w.heap[g']? = some ob) (hg : g' ≠ g) : w'.heap[g']? = some ob := (h.block g' (blk_lt hb) hg).trans hb
def numAt (b : List Int) (at_ n : Int) (ok : Bool) : Option (Int × Bool) := (bits_Get.f 1000 b at_ n).bind fun p => some (p.1, ok && p.2)
def cell_number.T1 : Bool × List (List Nat × List Nat) := (true, [([], []), ([0], [0]), ([1], [1]), ([2], [2]), ([], []), ([4], [4]), ([5], [5]), ([6], [6]), ([], []), ([3, 7, 8], [3, 7, 8]), ([9], [9]), ([10], [10]), ([10], [10]), ([11, 9, 0, 1, 2, 3, 4, 5, 6, 7, 8, 9, 10, 11], [11]), ([12, 13, 0, 1, 2, 3, 4, 5, 6, 7, 8, 9, 10, 11, 12, 13], [12])])
theorem cell_number.tab1 : rtab .any (opsOf Try.f17 1) = cell_number.T1 := by kernel_rfl
set_option maxHeartbeats 4000000 in
theorem cell_number.calls (A : Option Addr) (c : Nat) (l : List Int) (at_ n : Int) (ok : Bool) (v : Int) (ok' : Bool) (g : Nat) (w0 w : World) (hr : Kd.C (Kd.int .u8) w0 A l.length l) (hc : l.length ≤ c) (hB : Below w0.heap.size w0 w) (hg0 : w0.heap.size ≤ g)
    (hg : w.heap[g]? = some (.cells #[.slice A l.length c, .int .i64 at_, .bool ok] 50 (0, 0))) (h : numAt l at_ n ok = some (v, ok')) :
    Calls Try.prog 17 #[.pointer (some ⟨g, 0, none⟩), .int .i64 n] w fun e w' => e = .returned (.int .u64 v) ∧ w'.heap[g]? = some (.cells #[.slice A l.length c, .int .i64 (wrap64 (at_ + n)), .bool ok'] 50 (0, 0)) ∧ Fr g w w' := by
  obtain ⟨⟨v_, q⟩, hget, hv⟩ := Option.bind_eq_some_iff.mp h
  obtain ⟨rfl, rfl⟩ : v_ = v ∧ (ok && q) = ok' := by simpa using hv
  have hu50 := Try.underlying50
  have BK1 := blk_drew hg
  clear hg h
  go_enter Try.func17, Try.ntmps17
  go_upto_region 1 with fail
  (try simp only [Act.put, List.setIfInBounds_toArray, List.set_cons_zero, List.set_cons_succ])
  refine start_ (n := 15) (S := fun w' => w'.cell? ⟨g, 0, none⟩ = some (.slice A l.length c) ∧ w'.cell? ⟨g, 1, none⟩ = some (.int .i64 at_) ∧ w'.cell? ⟨g, 2, none⟩ = some (.bool ok)) (ds := []) #[false, false, false, false, false, false, false, false, false, false, false, false, false, false, false] (by kernel_rfl) rfl rfl ⟨(blk_cell BK1 0).trans rfl, (blk_cell BK1 1).trans rfl, (blk_cell BK1 2).trans rfl⟩ (fun hHeld => ?_)
  have HT_ := Aside0.mk cell_number.tab1
  have HBd := Aside0.mk (below_drew1 hB)
  have FRd := Aside0.mk (Fr.of_below (g := g) (below_drew1 (Below.refl w.heap.size w)))
  generalize w.drew = wd at BK1 hHeld HBd FRd ⊢
  refine pure_ (i := 0) (N := some 8) (v := ?_) (a' := ?_) #[true, false, false, false, false, false, false, false, false, false, false, false, false, false, false] rfl rfl (any_of HT_.out (by kernel_rfl)) (fun _ _ _ h => h) (Or.inl ⟨by rfl, ?_⟩) ?_ ?_
  rotate_left
  · intro w'
    go_simp
    with_reducible rfl
  rotate_left
  · simp only [Act.put, List.setIfInBounds_toArray, List.set_cons_zero, List.set_cons_succ, i64_w, i32_w]
    rfl
  refine pure_ (i := 1) (N := some 9) (v := ?_) (a' := ?_) #[true, true, false, false, false, false, false, false, false, false, false, false, false, false, false] rfl rfl (any_of HT_.out (by kernel_rfl)) (fun _ _ _ h => h) (Or.inl ⟨by rfl, ?_⟩) ?_ ?_
  rotate_left
  · intro w'
    go_simp
    with_reducible rfl
  rotate_left
  · simp only [Act.put, List.setIfInBounds_toArray, List.set_cons_zero, List.set_cons_succ, i64_w, i32_w]
    rfl
  refine pure_ (i := 2) (N := some 10) (v := ?_) (a' := ?_) #[true, true, true, false, false, false, false, false, false, false, false, false, false, false, false] rfl rfl (any_of HT_.out (by kernel_rfl)) (fun _ _ _ h => h) (Or.inl ⟨by rfl, ?_⟩) ?_ ?_
  rotate_left
  · intro w'
    go_simp
    with_reducible rfl
  rotate_left
  · simp only [Act.put, List.setIfInBounds_toArray, List.set_cons_zero, List.set_cons_succ, i64_w, i32_w]
    rfl
  refine take_ (i := 3) (N := some 11) (v := ?_) (a' := ?_) #[true, true, true, true, false, false, false, false, false, false, false, false, false, false, false] rfl rfl (take_of HT_.out (by kernel_rfl)) (fun _ _ _ h => h) (Or.inl ⟨by rfl, ?_⟩) hHeld ?_ ?_
  rotate_left
  · rintro w' ⟨s0, s1, s2⟩
    go_simp
    with_reducible rfl
  rotate_left
  · simp only [Act.put, List.setIfInBounds_toArray, List.set_cons_zero, List.set_cons_succ, i64_w, i32_w]
    rfl
  refine pure_ (i := 4) (N := some 12) (v := ?_) (a' := ?_) #[true, true, true, true, true, false, false, false, false, false, false, false, false, false, false] rfl rfl (any_of HT_.out (by kernel_rfl)) (fun _ _ _ h => h) (Or.inl ⟨by rfl, ?_⟩) ?_ ?_
  rotate_left
  · intro w'
    go_simp
    with_reducible rfl
  rotate_left
  · simp only [Act.put, List.setIfInBounds_toArray, List.set_cons_zero, List.set_cons_succ, i64_w, i32_w]
    rfl
  refine pure_ (i := 5) (N := some 13) (v := ?_) (a' := ?_) #[true, true, true, true, true, true, false, false, false, false, false, false, false, false, false] rfl rfl (any_of HT_.out (by kernel_rfl)) (fun _ _ _ h => h) (Or.inl ⟨by rfl, ?_⟩) ?_ ?_
  rotate_left
  · intro w'
    go_simp
    with_reducible rfl
  rotate_left
  · simp only [Act.put, List.setIfInBounds_toArray, List.set_cons_zero, List.set_cons_succ, i64_w, i32_w]
    rfl
  refine pure_ (i := 6) (N := some 14) (v := ?_) (a' := ?_) #[true, true, true, true, true, true, true, false, false, false, false, false, false, false, false] rfl rfl (any_of HT_.out (by kernel_rfl)) (fun _ _ _ h => h) (Or.inl ⟨by rfl, ?_⟩) ?_ ?_
  rotate_left
  · intro w'
    go_simp
    with_reducible rfl
  rotate_left
  · simp only [Act.put, List.setIfInBounds_toArray, List.set_cons_zero, List.set_cons_succ, i64_w, i32_w]
    rfl
  refine take_ (i := 7) (N := some 15) (v := ?_) (a' := ?_) #[true, true, true, true, true, true, true, true, false, false, false, false, false, false, false] rfl rfl (take_of HT_.out (by kernel_rfl)) (fun _ _ _ h => h) (Or.inl ⟨by rfl, ?_⟩) hHeld ?_ ?_
  rotate_left
  · rintro w' ⟨s0, s1, s2⟩
    go_simp
    with_reducible rfl
  rotate_left
  · simp only [Act.put, List.setIfInBounds_toArray, List.set_cons_zero, List.set_cons_succ, i64_w, i32_w]
    rfl
  refine pure_ (i := 8) (N := some 16) (v := ?_) (a' := ?_) #[true, true, true, true, true, true, true, true, true, false, false, false, false, false, false] rfl rfl (any_of HT_.out (by kernel_rfl)) (fun _ _ _ h => h) (Or.inl ⟨by rfl, ?_⟩) ?_ ?_
  rotate_left
  · intro w'
    go_simp
    with_reducible rfl
  rotate_left
  · simp only [Act.put, List.setIfInBounds_toArray, List.set_cons_zero, List.set_cons_succ, i64_w, i32_w]
    rfl
  refine one_ (i := 9) (N := some 17) #[true, true, true, true, true, true, true, true, true, true, false, false, false, false, false] rfl rfl (one_of HT_.out (by kernel_rfl)) (by decide) (fun K hK => ?_)
  refine goes_ Try.func28 (by kernel_rfl) rfl #[.slice A l.length c, .int .i64 at_, .int .i64 n] (by rfl) rfl rfl (by (try simp only [List.map_toArray, List.map_cons, List.map_nil]); first | done | rfl) ?_
  refine (bits_Get.calls 1000 A c l at_ n v_ q wd (Kd.C_below hr HBd.out) hc hget).mono ?_
  rintro e w2 ⟨rfl, hb2⟩
  refine ⟨_, rfl, ?_⟩
  have BK2 := blk_below BK1 hb2
  have FR2 := Aside0.mk (FRd.out.trans (Fr.of_below (g := g) hb2))
  clear hb2 BK1 FRd HBd hHeld
  refine hK.out _ _ ⟨(blk_cell BK2 0).trans rfl, (blk_cell BK2 1).trans rfl, (blk_cell BK2 2).trans rfl⟩ (fun hHeld => ?_)
  clear hK K
  refine norm_ (a' := ?_) ?_ ?_
  rotate_left
  · show Act.put _ (some 17) _ = _
    simp only [Act.put, List.setIfInBounds_toArray, List.set_cons_zero, List.set_cons_succ, i64_w, i32_w]
    rfl
  refine pure_ (i := 10) (N := some 7) (v := ?_) (a' := ?_) #[true, true, true, true, true, true, true, true, true, true, true, false, false, false, false] rfl rfl (any_of HT_.out (by kernel_rfl)) (fun _ _ _ h => h) (Or.inl ⟨by rfl, ?_⟩) ?_ ?_
  rotate_left
  · intro w'
    go_simp
    with_reducible rfl
  rotate_left
  · simp only [Act.put, List.setIfInBounds_toArray, List.set_cons_zero, List.set_cons_succ, i64_w, i32_w]
    rfl
  refine pure_ (i := 11) (N := some 18) (v := ?_) (a' := ?_) #[true, true, true, true, true, true, true, true, true, true, true, true, false, false, false] rfl rfl (any_of HT_.out (by kernel_rfl)) (fun _ _ _ h => h) (Or.inl ⟨by rfl, ?_⟩) ?_ ?_
  rotate_left
  · intro w'
    go_simp
    with_reducible rfl
  rotate_left
  · simp only [Act.put, List.setIfInBounds_toArray, List.set_cons_zero, List.set_cons_succ, i64_w, i32_w]
    rfl
  refine pure_ (i := 12) (N := some 19) (v := ?_) (a' := ?_) #[true, true, true, true, true, true, true, true, true, true, true, true, true, false, false] rfl rfl (any_of HT_.out (by kernel_rfl)) (fun _ _ _ h => h) (Or.inl ⟨by rfl, ?_⟩) ?_ ?_
  rotate_left
  · intro w'
    go_simp
    with_reducible rfl
  rotate_left
  · simp only [Act.put, List.setIfInBounds_toArray, List.set_cons_zero, List.set_cons_succ, i64_w, i32_w]
    rfl
  refine pure_ (i := 13) (N := some 5) (v := ?_) (a' := ?_) #[true, true, true, true, true, true, true, true, true, true, true, true, true, true, false] rfl rfl (any_of HT_.out (by kernel_rfl)) (fun _ _ _ h => h) (Or.inl ⟨by rfl, ?_⟩) ?_ ?_
  rotate_left
  · intro w'
    go_simp
    with_reducible rfl
  rotate_left
  · simp only [Act.put, List.setIfInBounds_toArray, List.set_cons_zero, List.set_cons_succ, i64_w, i32_w]
    rfl
  refine pure_ (i := 14) (N := some 6) (v := ?_) (a' := ?_) #[true, true, true, true, true, true, true, true, true, true, true, true, true, true, true] rfl rfl (any_of HT_.out (by kernel_rfl)) (fun _ _ _ h => h) (Or.inl ⟨by rfl, ?_⟩) ?_ ?_
  rotate_left
  · intro w'
    go_simp
    with_reducible rfl
  rotate_left
  · simp only [Act.put, List.setIfInBounds_toArray, List.set_cons_zero, List.set_cons_succ, i64_w, i32_w]
    rfl
  refine done_ (done_of HT_.out (by kernel_rfl)) ?_
  clear hHeld
  have z0 : w2.cell? ⟨g, 0, none⟩ = some (.slice A l.length c) := (blk_cell BK2 0).trans rfl
  have z1 : w2.cell? ⟨g, 1, none⟩ = some (.int .i64 at_) := (blk_cell BK2 1).trans rfl
  have z2 : w2.cell? ⟨g, 2, none⟩ = some (.bool ok) := (blk_cell BK2 2).trans rfl
  have y0 := blk_frozen BK2 0
  have y1 := blk_frozen BK2 1
  have y2 := blk_frozen BK2 2
  have b1 := blk_put BK2 2 (.bool (ok && q)) (show _ = #[.slice A l.length c, .int .i64 at_, .bool (ok && q)] from rfl)
  have b2 := blk_put b1 1 (.int .i64 (wrap64 (at_ + n))) (show _ = #[.slice A l.length c, .int .i64 (wrap64 (at_ + n)), .bool (ok && q)] from rfl)
  have fr := FR2.out.trans ((Fr.set g 2 (.bool (ok && q)) w2).trans (Fr.set g 1 (.int .i64 (wrap64 (at_ + n))) _))
  cases ok
  · go_wp2
    go_ret
    exact ⟨by first | rfl | (simp; done), b2, fr⟩
  · cases q
    · go_wp2
      go_ret
      exact ⟨by first | rfl | (simp; done), b2, fr⟩
    · go_wp2
      go_ret
      exact ⟨by first | rfl | (simp; done), b2, fr⟩
theorem Fr.put {g m j : Nat} {v : Value} {w w1 : World} (h : Fr g w w1) (hm : w.heap.size ≤ m) : Fr g w (w1.setCell ⟨m, j, none⟩ v) := by
  have k := Fr.set m j v w1
  exact ⟨k.os.trans h.os, k.tape.trans h.tape, k.output.trans h.output, Nat.le_trans h.size k.size, fun i hi hg => (k.block i (Nat.lt_of_lt_of_le hi h.size) (by omega)).trans (h.block i hi hg)⟩
theorem Fr.alloc {g : Nat} {w w1 : World} (h : Fr g w w1) (ob : Obj) : Fr g w (w1.alloc ob) := h.trans (Fr.of_below (below_alloc (Below.refl _ _) ob))
theorem results_c1 {P : Program} {fn : Func} {p : Tmp} {ty : TypeId} (h : fn.results = #[.cell p ty]) (tmps : Array Value) (w : World) (g : Nat) (t : TypeId) (cs : Array Value) (fr : Nat × Nat) (d : TypeDesc)
    (hp : tmps.getD p undef = .pointer (some ⟨g, 0, none⟩)) (hg : w.heap[g]? = some (.cells cs t fr))
    (hu : P.underlying ty = some d) (hd : (match d with | .struct _ | .array _ _ => true | _ => false) = true) (hi : (P.info? ty).map (·.size) = some cs.size) :
    (results fn tmps).run P w = .ok (.agg cs) w := by
  have hp' : tmps[p]?.getD undef = .pointer (some ⟨g, 0, none⟩) := by simpa using hp
  simp [results, h, hp', asAddr, run_loadVar_row w g t ty cs fr d hg hu hd hi]
theorem alloc_size (w : World) (ob : Obj) : (w.alloc ob).heap.size = w.heap.size + 1 := Array.size_push ..
def unNone (a : Int) : Int := if a = 1048576 then 18446744073709551615 else a
def nextAt (at_ : Int) : Int := wrap64 (wrap64 (wrap64 (at_ + 4) + 21) + 21)
def backAt (b : List Int) (at_ : Int) (ok : Bool) : Option (S41 × Bool) := (numAt b at_ 4 ok).bind fun s => (numAt b (wrap64 (at_ + 4)) 21 s.2).bind fun x => (numAt b (wrap64 (wrap64 (at_ + 4) + 21)) 21 x.2).bind fun y => some (⟨wrap64 s.1, ⟨unNone x.1, unNone y.1⟩⟩, y.2)
set_option maxHeartbeats 8000000 in
theorem cell_back.calls (A : Option Addr) (c : Nat) (l : List Int) (at_ : Int) (ok : Bool) (x : S41) (ok' : Bool) (g : Nat) (w0 w : World) (hr : Kd.C (Kd.int .u8) w0 A l.length l) (hc : l.length ≤ c) (hB : Below w0.heap.size w0 w) (hg0 : w0.heap.size ≤ g)
    (hg : w.heap[g]? = some (.cells #[.slice A l.length c, .int .i64 at_, .bool ok] 50 (0, 0))) (h : backAt l at_ ok = some (x, ok')) :
    Calls Try.prog 18 #[.pointer (some ⟨g, 0, none⟩)] w fun e w' => e = .returned (.agg #[.int .i64 x.f0, .int .u64 x.f1.f0, .int .u64 x.f1.f1]) ∧ w'.heap[g]? = some (.cells #[.slice A l.length c, .int .i64 (nextAt at_), .bool ok'] 50 (0, 0)) ∧ Fr g w w' := by
  obtain ⟨⟨s, o0⟩, h0, h⟩ := Option.bind_eq_some_iff.mp h
  obtain ⟨⟨v1, o1⟩, h1, h⟩ := Option.bind_eq_some_iff.mp h
  obtain ⟨⟨v2, o2⟩, h2, h⟩ := Option.bind_eq_some_iff.mp h
  obtain ⟨rfl, rfl⟩ : (⟨wrap64 s, ⟨unNone v1, unNone v2⟩⟩ : S41) = x ∧ o2 = ok' := by simpa using h
  clear h
  have hu50 := Try.underlying50
  have hu41 := Try.underlying41
  have hu37 := Try.underlying37
  have i0 := idx37_0
  have i1 := idx37_1
  have hgw := blk_lt hg
  have BG_ := Aside0.mk (blk_alloc hg (.cells #[.int .i64 0, .int .u64 0, .int .u64 0] 41))
  clear hg
  go_enter Try.func18, Try.ntmps18
  go_wp2_with fail
  go_at_call 17
  refine (cell_number.calls A c l at_ 4 ok s o0 g w0 _ hr hc (hB.alloc hB.size _) hg0 BG_.out h0).mono ?_
  rintro e w1 ⟨rfl, hg1, hf1⟩
  have hs1 := hf1.size
  rw [alloc_size] at hs1
  have hne : w1.heap.size ≠ g := by omega
  have hnr : w.heap.size ≠ g := by omega
  have hrm : w.heap.size ≠ w1.heap.size := by omega
  have hmw : w.heap.size ≤ w1.heap.size := by omega
  have BGm := Aside0.mk (blk_alloc hg1 (.cells #[.int .i64 (wrap64 s), .int .u64 0, .int .u64 0] 41))
  have BMm := Aside0.mk (blk_new w1 (.cells #[.int .i64 (wrap64 s), .int .u64 0, .int .u64 0] 41))
  have BRm := Aside0.mk (blk_alloc (Fr.blk hf1 (blk_new w (.cells #[.int .i64 0, .int .u64 0, .int .u64 0] 41)) hnr) (.cells #[.int .i64 (wrap64 s), .int .u64 0, .int .u64 0] 41))
  have FRm := Aside0.mk (((Fr.of_below (g := g) (below_alloc (Below.refl w.heap.size w) (.cells #[.int .i64 0, .int .u64 0, .int .u64 0] 41))).trans hf1).alloc (.cells #[.int .i64 (wrap64 s), .int .u64 0, .int .u64 0] 41))
  clear hg1 hf1 BG_ hs1
  go_wp2_with fail
  refine wp_loop_rounds 3 ?_
  rw [rounds_succ]
  go_wp2_with fail
  go_at_call 17
  refine (cell_number.calls A c l (wrap64 (at_ + 4)) 21 o0 v1 o1 g w0 _ hr hc (Fr.below hB hg0 FRm.out) hg0 BGm.out h1).mono ?_
  rintro e u0 ⟨rfl, hg_, hf_⟩
  have BG0 := Aside0.mk hg_
  have BM0 := Aside0.mk (Fr.blk hf_ BMm.out hne)
  have BR0 := Aside0.mk (Fr.blk hf_ BRm.out hnr)
  have FR0 := Aside0.mk (FRm.out.trans hf_)
  clear hg_ hf_
  have P0 := Aside0.mk (blk_put BM0.out 1 (.int .u64 v1) (show _ = #[.int .i64 (wrap64 s), .int .u64 (v1), .int .u64 (0)] from rfl))
  have az0 := (blk_cell BM0.out 0).trans rfl
  have az1 := (blk_cell BM0.out 1).trans rfl
  have az2 := (blk_cell BM0.out 2).trans rfl
  have ay0 := blk_frozen BM0.out 0
  have ay1 := blk_frozen BM0.out 1
  have ay2 := blk_frozen BM0.out 2
  have bz0 := (blk_cell P0.out 0).trans rfl
  have bz1 := (blk_cell P0.out 1).trans rfl
  have bz2 := (blk_cell P0.out 2).trans rfl
  have by0 := blk_frozen P0.out 0
  have by1 := blk_frozen P0.out 1
  have by2 := blk_frozen P0.out 2
  have G0 := Aside0.mk (Fr.blk (Fr.set w1.heap.size 1 (.int .u64 v1) u0) BG0.out (Ne.symm hne))
  have R0 := Aside0.mk (Fr.blk (Fr.set w1.heap.size 1 (.int .u64 v1) u0) BR0.out hrm)
  have F0 := Aside0.mk (Fr.put (j := 1) (v := .int .u64 v1) FR0.out hmw)
  by_cases e0 : v1 = 1048576
  · have eb0 : (v1 == 1048576) = true := beq_iff_eq.mpr e0
    have ea0 := Aside0.mk e0
    clear e0
    have Q0 := Aside0.mk (blk_put P0.out 1 (.int .u64 18446744073709551615) (show _ = #[.int .i64 (wrap64 s), .int .u64 (18446744073709551615), .int .u64 (0)] from rfl))
    have GQ0 := Aside0.mk (Fr.blk (Fr.set w1.heap.size 1 (.int .u64 18446744073709551615) _) G0.out (Ne.symm hne))
    have RQ0 := Aside0.mk (Fr.blk (Fr.set w1.heap.size 1 (.int .u64 18446744073709551615) _) R0.out hrm)
    have FQ0 := Aside0.mk (Fr.put (j := 1) (v := .int .u64 18446744073709551615) F0.out hmw)
    clear P0 G0 R0 F0
    go_wp2_with fail
    rw [rounds_succ]
    go_wp2_with fail
    go_at_call 17
    refine (cell_number.calls A c l (wrap64 (wrap64 (at_ + 4) + 21)) 21 o1 v2 o2 g w0 _ hr hc (Fr.below hB hg0 FQ0.out) hg0 GQ0.out h2).mono ?_
    rintro e u1 ⟨rfl, hg_, hf_⟩
    have BG1 := Aside0.mk hg_
    have BM1 := Aside0.mk (Fr.blk hf_ Q0.out hne)
    have BR1 := Aside0.mk (Fr.blk hf_ RQ0.out hnr)
    have FR1 := Aside0.mk (FQ0.out.trans hf_)
    clear hg_ hf_
    have P1 := Aside0.mk (blk_put BM1.out 2 (.int .u64 v2) (show _ = #[.int .i64 (wrap64 s), .int .u64 (18446744073709551615), .int .u64 (v2)] from rfl))
    have az0 := (blk_cell BM1.out 0).trans rfl
    have az1 := (blk_cell BM1.out 1).trans rfl
    have az2 := (blk_cell BM1.out 2).trans rfl
    have ay0 := blk_frozen BM1.out 0
    have ay1 := blk_frozen BM1.out 1
    have ay2 := blk_frozen BM1.out 2
    have bz0 := (blk_cell P1.out 0).trans rfl
    have bz1 := (blk_cell P1.out 1).trans rfl
    have bz2 := (blk_cell P1.out 2).trans rfl
    have by0 := blk_frozen P1.out 0
    have by1 := blk_frozen P1.out 1
    have by2 := blk_frozen P1.out 2
    have G1 := Aside0.mk (Fr.blk (Fr.set w1.heap.size 2 (.int .u64 v2) u1) BG1.out (Ne.symm hne))
    have R1 := Aside0.mk (Fr.blk (Fr.set w1.heap.size 2 (.int .u64 v2) u1) BR1.out hrm)
    have F1 := Aside0.mk (Fr.put (j := 2) (v := .int .u64 v2) FR1.out hmw)
    by_cases e1 : v2 = 1048576
    · have eb1 : (v2 == 1048576) = true := beq_iff_eq.mpr e1
      have ea1 := Aside0.mk e1
      clear e1
      have Q1 := Aside0.mk (blk_put P1.out 2 (.int .u64 18446744073709551615) (show _ = #[.int .i64 (wrap64 s), .int .u64 (18446744073709551615), .int .u64 (18446744073709551615)] from rfl))
      have GQ1 := Aside0.mk (Fr.blk (Fr.set w1.heap.size 2 (.int .u64 18446744073709551615) _) G1.out (Ne.symm hne))
      have RQ1 := Aside0.mk (Fr.blk (Fr.set w1.heap.size 2 (.int .u64 18446744073709551615) _) R1.out hrm)
      have FQ1 := Aside0.mk (Fr.put (j := 2) (v := .int .u64 18446744073709551615) F1.out hmw)
      clear P1 G1 R1 F1
      go_wp2_with fail
      have cz0 := (blk_cell Q1.out 0).trans rfl
      have cz1 := (blk_cell Q1.out 1).trans rfl
      have cz2 := (blk_cell Q1.out 2).trans rfl
      have cy0 := blk_frozen Q1.out 0
      have cy1 := blk_frozen Q1.out 1
      have cy2 := blk_frozen Q1.out 2
      have dz0 := (blk_cell RQ1.out 0).trans rfl
      have dz1 := (blk_cell RQ1.out 1).trans rfl
      have dz2 := (blk_cell RQ1.out 2).trans rfl
      have dy0 := blk_frozen RQ1.out 0
      have dy1 := blk_frozen RQ1.out 1
      have dy2 := blk_frozen RQ1.out 2
      rw [rounds_succ]
      go_wp2_with fail
      have t1 := blk_put RQ1.out 0 (.int .i64 (wrap64 s)) (show _ = #[.int .i64 (wrap64 s), .int .u64 (0), .int .u64 (0)] from rfl)
      have t2 := blk_put t1 1 (.int .u64 18446744073709551615) (show _ = #[.int .i64 (wrap64 s), .int .u64 (18446744073709551615), .int .u64 (0)] from rfl)
      have t3 := blk_put t2 2 (.int .u64 18446744073709551615) (show _ = #[.int .i64 (wrap64 s), .int .u64 (18446744073709551615), .int .u64 (18446744073709551615)] from rfl)
      refine bodyPost_ret (results_c1 rfl _ _ w.heap.size 41 #[.int .i64 (wrap64 s), .int .u64 (18446744073709551615), .int .u64 (18446744073709551615)] (0, 0) _ rfl t3 Try.underlying41 rfl (by kernel_rfl)) rfl ?_
      exact ⟨by rw [show unNone v1 = 18446744073709551615 from if_pos ea0.out, show unNone v2 = 18446744073709551615 from if_pos ea1.out], Fr.blk (Fr.set w.heap.size 2 _ _) (Fr.blk (Fr.set w.heap.size 1 _ _) (Fr.blk (Fr.set w.heap.size 0 _ _) GQ1.out (Ne.symm hnr)) (Ne.symm hnr)) (Ne.symm hnr), Fr.put (Fr.put (Fr.put FQ1.out (Nat.le_refl _)) (Nat.le_refl _)) (Nat.le_refl _)⟩
    · have eb1 : (v2 == 1048576) = false := beq_eq_false_iff_ne.mpr e1
      have ea1 := Aside0.mk e1
      clear e1
      go_wp2_with fail
      have cz0 := (blk_cell P1.out 0).trans rfl
      have cz1 := (blk_cell P1.out 1).trans rfl
      have cz2 := (blk_cell P1.out 2).trans rfl
      have cy0 := blk_frozen P1.out 0
      have cy1 := blk_frozen P1.out 1
      have cy2 := blk_frozen P1.out 2
      have dz0 := (blk_cell R1.out 0).trans rfl
      have dz1 := (blk_cell R1.out 1).trans rfl
      have dz2 := (blk_cell R1.out 2).trans rfl
      have dy0 := blk_frozen R1.out 0
      have dy1 := blk_frozen R1.out 1
      have dy2 := blk_frozen R1.out 2
      rw [rounds_succ]
      go_wp2_with fail
      have t1 := blk_put R1.out 0 (.int .i64 (wrap64 s)) (show _ = #[.int .i64 (wrap64 s), .int .u64 (0), .int .u64 (0)] from rfl)
      have t2 := blk_put t1 1 (.int .u64 18446744073709551615) (show _ = #[.int .i64 (wrap64 s), .int .u64 (18446744073709551615), .int .u64 (0)] from rfl)
      have t3 := blk_put t2 2 (.int .u64 v2) (show _ = #[.int .i64 (wrap64 s), .int .u64 (18446744073709551615), .int .u64 (v2)] from rfl)
      refine bodyPost_ret (results_c1 rfl _ _ w.heap.size 41 #[.int .i64 (wrap64 s), .int .u64 (18446744073709551615), .int .u64 (v2)] (0, 0) _ rfl t3 Try.underlying41 rfl (by kernel_rfl)) rfl ?_
      exact ⟨by rw [show unNone v1 = 18446744073709551615 from if_pos ea0.out, show unNone v2 = v2 from if_neg ea1.out], Fr.blk (Fr.set w.heap.size 2 _ _) (Fr.blk (Fr.set w.heap.size 1 _ _) (Fr.blk (Fr.set w.heap.size 0 _ _) G1.out (Ne.symm hnr)) (Ne.symm hnr)) (Ne.symm hnr), Fr.put (Fr.put (Fr.put F1.out (Nat.le_refl _)) (Nat.le_refl _)) (Nat.le_refl _)⟩
  · have eb0 : (v1 == 1048576) = false := beq_eq_false_iff_ne.mpr e0
    have ea0 := Aside0.mk e0
    clear e0
    go_wp2_with fail
    rw [rounds_succ]
    go_wp2_with fail
    go_at_call 17
    refine (cell_number.calls A c l (wrap64 (wrap64 (at_ + 4) + 21)) 21 o1 v2 o2 g w0 _ hr hc (Fr.below hB hg0 F0.out) hg0 G0.out h2).mono ?_
    rintro e u1 ⟨rfl, hg_, hf_⟩
    have BG1 := Aside0.mk hg_
    have BM1 := Aside0.mk (Fr.blk hf_ P0.out hne)
    have BR1 := Aside0.mk (Fr.blk hf_ R0.out hnr)
    have FR1 := Aside0.mk (F0.out.trans hf_)
    clear hg_ hf_
    have P1 := Aside0.mk (blk_put BM1.out 2 (.int .u64 v2) (show _ = #[.int .i64 (wrap64 s), .int .u64 (v1), .int .u64 (v2)] from rfl))
    have az0 := (blk_cell BM1.out 0).trans rfl
    have az1 := (blk_cell BM1.out 1).trans rfl
    have az2 := (blk_cell BM1.out 2).trans rfl
    have ay0 := blk_frozen BM1.out 0
    have ay1 := blk_frozen BM1.out 1
    have ay2 := blk_frozen BM1.out 2
    have bz0 := (blk_cell P1.out 0).trans rfl
    have bz1 := (blk_cell P1.out 1).trans rfl
    have bz2 := (blk_cell P1.out 2).trans rfl
    have by0 := blk_frozen P1.out 0
    have by1 := blk_frozen P1.out 1
    have by2 := blk_frozen P1.out 2
    have G1 := Aside0.mk (Fr.blk (Fr.set w1.heap.size 2 (.int .u64 v2) u1) BG1.out (Ne.symm hne))
    have R1 := Aside0.mk (Fr.blk (Fr.set w1.heap.size 2 (.int .u64 v2) u1) BR1.out hrm)
    have F1 := Aside0.mk (Fr.put (j := 2) (v := .int .u64 v2) FR1.out hmw)
    by_cases e1 : v2 = 1048576
    · have eb1 : (v2 == 1048576) = true := beq_iff_eq.mpr e1
      have ea1 := Aside0.mk e1
      clear e1
      have Q1 := Aside0.mk (blk_put P1.out 2 (.int .u64 18446744073709551615) (show _ = #[.int .i64 (wrap64 s), .int .u64 (v1), .int .u64 (18446744073709551615)] from rfl))
      have GQ1 := Aside0.mk (Fr.blk (Fr.set w1.heap.size 2 (.int .u64 18446744073709551615) _) G1.out (Ne.symm hne))
      have RQ1 := Aside0.mk (Fr.blk (Fr.set w1.heap.size 2 (.int .u64 18446744073709551615) _) R1.out hrm)
      have FQ1 := Aside0.mk (Fr.put (j := 2) (v := .int .u64 18446744073709551615) F1.out hmw)
      clear P1 G1 R1 F1
      go_wp2_with fail
      have cz0 := (blk_cell Q1.out 0).trans rfl
      have cz1 := (blk_cell Q1.out 1).trans rfl
      have cz2 := (blk_cell Q1.out 2).trans rfl
      have cy0 := blk_frozen Q1.out 0
      have cy1 := blk_frozen Q1.out 1
      have cy2 := blk_frozen Q1.out 2
      have dz0 := (blk_cell RQ1.out 0).trans rfl
      have dz1 := (blk_cell RQ1.out 1).trans rfl
      have dz2 := (blk_cell RQ1.out 2).trans rfl
      have dy0 := blk_frozen RQ1.out 0
      have dy1 := blk_frozen RQ1.out 1
      have dy2 := blk_frozen RQ1.out 2
      rw [rounds_succ]
      go_wp2_with fail
      have t1 := blk_put RQ1.out 0 (.int .i64 (wrap64 s)) (show _ = #[.int .i64 (wrap64 s), .int .u64 (0), .int .u64 (0)] from rfl)
      have t2 := blk_put t1 1 (.int .u64 v1) (show _ = #[.int .i64 (wrap64 s), .int .u64 (v1), .int .u64 (0)] from rfl)
      have t3 := blk_put t2 2 (.int .u64 18446744073709551615) (show _ = #[.int .i64 (wrap64 s), .int .u64 (v1), .int .u64 (18446744073709551615)] from rfl)
      refine bodyPost_ret (results_c1 rfl _ _ w.heap.size 41 #[.int .i64 (wrap64 s), .int .u64 (v1), .int .u64 (18446744073709551615)] (0, 0) _ rfl t3 Try.underlying41 rfl (by kernel_rfl)) rfl ?_
      exact ⟨by rw [show unNone v1 = v1 from if_neg ea0.out, show unNone v2 = 18446744073709551615 from if_pos ea1.out], Fr.blk (Fr.set w.heap.size 2 _ _) (Fr.blk (Fr.set w.heap.size 1 _ _) (Fr.blk (Fr.set w.heap.size 0 _ _) GQ1.out (Ne.symm hnr)) (Ne.symm hnr)) (Ne.symm hnr), Fr.put (Fr.put (Fr.put FQ1.out (Nat.le_refl _)) (Nat.le_refl _)) (Nat.le_refl _)⟩
    · have eb1 : (v2 == 1048576) = false := beq_eq_false_iff_ne.mpr e1
      have ea1 := Aside0.mk e1
      clear e1
      go_wp2_with fail
      have cz0 := (blk_cell P1.out 0).trans rfl
      have cz1 := (blk_cell P1.out 1).trans rfl
      have cz2 := (blk_cell P1.out 2).trans rfl
      have cy0 := blk_frozen P1.out 0
      have cy1 := blk_frozen P1.out 1
      have cy2 := blk_frozen P1.out 2
      have dz0 := (blk_cell R1.out 0).trans rfl
      have dz1 := (blk_cell R1.out 1).trans rfl
      have dz2 := (blk_cell R1.out 2).trans rfl
      have dy0 := blk_frozen R1.out 0
      have dy1 := blk_frozen R1.out 1
      have dy2 := blk_frozen R1.out 2
      rw [rounds_succ]
      go_wp2_with fail
      have t1 := blk_put R1.out 0 (.int .i64 (wrap64 s)) (show _ = #[.int .i64 (wrap64 s), .int .u64 (0), .int .u64 (0)] from rfl)
      have t2 := blk_put t1 1 (.int .u64 v1) (show _ = #[.int .i64 (wrap64 s), .int .u64 (v1), .int .u64 (0)] from rfl)
      have t3 := blk_put t2 2 (.int .u64 v2) (show _ = #[.int .i64 (wrap64 s), .int .u64 (v1), .int .u64 (v2)] from rfl)
      refine bodyPost_ret (results_c1 rfl _ _ w.heap.size 41 #[.int .i64 (wrap64 s), .int .u64 (v1), .int .u64 (v2)] (0, 0) _ rfl t3 Try.underlying41 rfl (by kernel_rfl)) rfl ?_
      exact ⟨by rw [show unNone v1 = v1 from if_neg ea0.out, show unNone v2 = v2 from if_neg ea1.out], Fr.blk (Fr.set w.heap.size 2 _ _) (Fr.blk (Fr.set w.heap.size 1 _ _) (Fr.blk (Fr.set w.heap.size 0 _ _) G1.out (Ne.symm hnr)) (Ne.symm hnr)) (Ne.symm hnr), Fr.put (Fr.put (Fr.put F1.out (Nat.le_refl _)) (Nat.le_refl _)) (Nat.le_refl _)⟩
end Go.Proofs.Ytknjhmclnnjbnaa.Fn
