/- What Encode writes of a right cell: its numbers, packed into their widths, and its data behind; conditions: as each theorem names them. -/
import Derived.Test.YtknjhmclnnjbnaaBit
namespace Go.Proofs.Ytknjhmclnnjbnaa.Pure
open Go.RowKit Go.Proofs.Ytknjhmclnnjbnaa.Fn Go.Proofs.YtknjhmclnnjbnaaW.PrintWords Go.Proofs.YtknjhmclnnjbnaaW.PrintLast Go.Proofs.YtknjhmclnnjbnaaW.PrintMore
def wd (l : List S41) : List Int := l.flatMap fun _ => [4, 21, 21]
def nm (l : List S41) : List Int := l.flatMap fun x => [x.f0, mn x.f1.f0 1048576, mn x.f1.f1 1048576]
def ws (l : List S41) : List Int := [2, 3, 7] ++ wd l
def vs (n : Nat) (l : List S41) : List Int := [1, (l.length : Int), (n : Int)] ++ nm l
/-- A Back of a right cell. -/
def Good (x : S41) : Prop := 0 ≤ x.f0 ∧ x.f0 < 16 ∧ (x.f1.f0 = 18446744073709551615 ∨ x.f1.f0 < 1048576) ∧ (x.f1.f1 = 18446744073709551615 ∨ x.f1.f1 < 1048576)
/-- Its addresses are no negative numbers. -/
def Nn (x : S41) : Prop := 0 ≤ x.f1.f0 ∧ 0 ≤ x.f1.f1
theorem right_good {last : Int} {l : List S41} (h : rightB last l = true) (h0 : -1 ≤ last) : ∀ x ∈ l, Good x := by
  induction l generalizing last with
  | nil => intro x hx; cases hx
  | cons y ys ih =>
    rw [rightB] at h
    simp only [Bool.and_eq_true, Bool.not_eq_true'] at h
    obtain ⟨h1, h2⟩ := h
    have hy : Good y := by
      unfold Good
      simp [wrongB, lastingB] at h1
      refine ⟨by omega, by omega, ?_, ?_⟩
      · by_cases e : y.f1.f0 = 18446744073709551615
        · exact .inl e
        · exact .inr (h1.2.1.1 e)
      · by_cases e : y.f1.f1 = 18446744073709551615
        · exact .inl e
        · exact .inr (h1.2.1.2 e)
    intro x hx
    rcases List.mem_cons.mp hx with rfl | hx
    · exact hy
    · exact ih h2 (by have := hy.1; omega) x hx
theorem wd_len (l : List S41) : (wd l).length = 3 * l.length := by
  induction l with
  | nil => rfl
  | cons x xs ih => simp only [wd, List.flatMap_cons, List.length_append, List.length_cons, List.length_nil] at *; omega
theorem nm_len (l : List S41) : (nm l).length = 3 * l.length := by
  induction l with
  | nil => rfl
  | cons x xs ih => simp only [nm, List.flatMap_cons, List.length_append, List.length_cons, List.length_nil] at *; omega
theorem wd_at : ∀ (l : List S41) (i : Nat), i < l.length → (wd l).getD (3 * i) 0 = 4 ∧ (wd l).getD (3 * i + 1) 0 = 21 ∧ (wd l).getD (3 * i + 2) 0 = 21
  | [], _, h => absurd h (Nat.not_lt_zero _)
  | _ :: _, 0, _ => ⟨rfl, rfl, rfl⟩
  | _ :: xs, i + 1, h => wd_at xs i (Nat.lt_of_succ_lt_succ h)
theorem nm_at : ∀ (l : List S41) (i : Nat), i < l.length → (nm l).getD (3 * i) 0 = (l.getD i z41).f0 ∧ (nm l).getD (3 * i + 1) 0 = mn (l.getD i z41).f1.f0 1048576 ∧ (nm l).getD (3 * i + 2) 0 = mn (l.getD i z41).f1.f1 1048576
  | [], _, h => absurd h (Nat.not_lt_zero _)
  | _ :: _, 0, _ => ⟨rfl, rfl, rfl⟩
  | _ :: xs, i + 1, h => nm_at xs i (Nat.lt_of_succ_lt_succ h)
theorem ws_len (l : List S41) : (ws l).length = 3 + 3 * l.length := by simp only [ws, List.length_append, wd_len, List.length_cons, List.length_nil]
theorem vs_len (n : Nat) (l : List S41) : (vs n l).length = 3 + 3 * l.length := by simp only [vs, List.length_append, nm_len, List.length_cons, List.length_nil]
theorem ws_at (l : List S41) (j : Nat) : (ws l).getD (j + 3) 0 = (wd l).getD j 0 := rfl
theorem vs_at (n : Nat) (l : List S41) (j : Nat) : (vs n l).getD (j + 3) 0 = (nm l).getD j 0 := rfl
theorem good_at {l : List S41} (h : ∀ x ∈ l, Good x) {i : Nat} (hi : i < l.length) : Good (l.getD i z41) := by
  rw [List.getD_eq_getElem?_getD, List.getElem?_eq_getElem hi]
  exact h _ (List.getElem_mem hi)
theorem nn_at {l : List S41} (h : ∀ x ∈ l, Nn x) {i : Nat} (hi : i < l.length) : Nn (l.getD i z41) := by
  rw [List.getD_eq_getElem?_getD, List.getElem?_eq_getElem hi]
  exact h _ (List.getElem_mem hi)
theorem mn_bd {a : Int} (h0 : 0 ≤ a) : 0 ≤ mn a 1048576 ∧ mn a 1048576 ≤ 1048576 := by unfold mn; split <;> omega
/-- The place of a Back's three numbers. -/
theorem three {j m : Nat} (h : j < 3 * m) : ∃ i c, i < m ∧ c < 3 ∧ j = 3 * i + c := ⟨j / 3, j % 3, by omega, by omega, by omega⟩
theorem fit_all {n : Nat} {l : List S41} (hn : n ≤ 100) (hl : l.length ≤ 4) (hg : ∀ x ∈ l, Good x) (hnn : ∀ x ∈ l, Nn x) : ∀ j, j < (ws l).length → Fit (ws l) (vs n l) j := by
  intro j hj
  rw [ws_len] at hj
  match j with
  | 0 => exact ⟨show (0 : Int) ≤ 2 by decide, show (2 : Int) ≤ 64 by decide, show 1 < 2 ^ 2 by decide⟩
  | 1 =>
    refine ⟨show (0 : Int) ≤ 3 by decide, show (3 : Int) ≤ 64 by decide, ?_⟩
    show ((l.length : Int)).toNat < 2 ^ 3
    omega
  | 2 =>
    refine ⟨show (0 : Int) ≤ 7 by decide, show (7 : Int) ≤ 64 by decide, ?_⟩
    show ((n : Int)).toNat < 2 ^ 7
    omega
  | j + 3 =>
    obtain ⟨i, c, hi, hc, rfl⟩ := three (show j < 3 * l.length by omega)
    obtain ⟨w0, w1, w2⟩ := wd_at l i hi
    obtain ⟨v0, v1, v2⟩ := nm_at l i hi
    have g := good_at hg hi
    have h := nn_at hnn hi
    unfold Fit wn
    rw [ws_at, vs_at]
    match c, hc with
    | 0, _ =>
      rw [Nat.add_zero, w0, v0]
      refine ⟨by decide, by decide, ?_⟩
      show _ < 16
      have := g.1; have := g.2.1; omega
    | 1, _ =>
      rw [w1, v1]
      refine ⟨by decide, by decide, ?_⟩
      show _ < 2097152
      have := mn_bd h.1; omega
    | 2, _ =>
      rw [w2, v2]
      refine ⟨by decide, by decide, ?_⟩
      show _ < 2097152
      have := mn_bd h.2; omega
theorem pos_back (l : List S41) : ∀ i, i ≤ l.length → pos (ws l) (3 * i + 3) = 12 + 46 * i
  | 0, _ => rfl
  | i + 1, h => by
    obtain ⟨w0, w1, w2⟩ := wd_at l i (by omega)
    have ih := pos_back l i (by omega)
    rw [show 3 * (i + 1) + 3 = ((3 * i + 2) + 3) + 1 from by omega]
    show pos (ws l) ((3 * i + 2) + 3) + ((wd l).getD (3 * i + 2) 0).toNat = _
    rw [show (3 * i + 2) + 3 = ((3 * i + 1) + 3) + 1 from by omega]
    show pos (ws l) ((3 * i + 1) + 3) + ((wd l).getD (3 * i + 1) 0).toNat + _ = _
    rw [show (3 * i + 1) + 3 = ((3 * i) + 3) + 1 from by omega]
    show pos (ws l) ((3 * i) + 3) + ((wd l).getD (3 * i) 0).toNat + _ + _ = _
    rw [ih, w0, w1, w2]
    show 12 + 46 * i + 4 + 21 + 21 = _
    omega
theorem pos_all (l : List S41) : pos (ws l) (ws l).length = 12 + 46 * l.length := by rw [ws_len, Nat.add_comm, pos_back l _ (Nat.le_refl _)]
theorem v8_all {n : Nat} {l : List S41} (hn : n ≤ 100) (hl : l.length ≤ 4) (hg : ∀ x ∈ l, Good x) (hnn : ∀ x ∈ l, Nn x) : V8 (vs n l) := by
  intro j
  by_cases hj : j < 3 + 3 * l.length
  · match j with
    | 0 => exact ⟨by show (0 : Int) ≤ 1; decide, by show (1 : Int) < _; decide⟩
    | 1 => exact ⟨by show (0 : Int) ≤ (l.length : Int); omega, by show (l.length : Int) < _; omega⟩
    | 2 => exact ⟨by show (0 : Int) ≤ (n : Int); omega, by show (n : Int) < _; omega⟩
    | j + 3 =>
      obtain ⟨i, c, hi, hc, rfl⟩ := three (show j < 3 * l.length by omega)
      obtain ⟨v0, v1, v2⟩ := nm_at l i hi
      have g := good_at hg hi
      have h := nn_at hnn hi
      rw [vs_at]
      match c, hc with
      | 0, _ => rw [Nat.add_zero, v0]; have := g.1; have := g.2.1; omega
      | 1, _ => rw [v1]; have := mn_bd h.1; omega
      | 2, _ => rw [v2]; have := mn_bd h.2; omega
  · rw [List.getD_eq_getElem?_getD, List.getElem?_eq_none (by rw [vs_len]; omega)]; exact ⟨by decide, by decide⟩
theorem u64_small {x : Int} (h0 : 0 ≤ x) (h1 : x < 18446744073709551616) : IntKind.u64.wrap x = x := by rw [u64_eq]; omega
theorem drop41 {l : List S41} {i : Nat} (h : i < l.length) : l.drop i = rd_T41 l (i : Int) :: l.drop (i + 1) := drop_T41 h
theorem enc_l0 {l : List S41} (hl : l.length ≤ 4) (hg : ∀ x ∈ l, Good x) (kind : Int) (l1 : List Int) : ∀ (d i j : Nat) (y z : List Int), i + d = l.length → y.length + 3 * d ≤ 100 → z.length + 3 * d ≤ 100 →
    cell_Encode.l0 (j + d + 1) y z l (l.length : Int) (i : Int) kind l1 l = (bits_Pack.f j (y ++ wd (l.drop i)) (z ++ nm (l.drop i))).bind fun bt => if bt.1.length + l1.length < 140737488355328 then some (bt.1 ++ l1, 0) else none
  | 0, i, j, y, z, hi, _, _ => by
    have e : i = l.length := by omega
    subst e
    rw [List.drop_length, cell_Encode.l0, if_neg (by omega)]
    simp [wd, nm]
  | d + 1, i, j, y, z, hi, hy, hz => by
    have hlt : i < l.length := by omega
    have hd := drop41 hlt
    have hm : rd_T41 l (i : Int) ∈ l := by
      have : rd_T41 l (i : Int) ∈ l.drop i := by rw [hd]; exact List.mem_cons_self
      exact List.mem_of_mem_drop this
    rw [hd, show j + (d + 1) + 1 = (j + d + 1) + 1 from rfl, cell_Encode.l0, if_pos (by omega), if_pos (by omega), if_pos (by omega), if_pos (by omega), Option.bind_some, if_pos (by omega), Option.bind_some, if_pos (by simp; omega), Option.bind_some, if_pos (by simp; omega), Option.bind_some, if_pos (by simp; omega), if_pos (by simp; omega)]
    generalize rd_T41 l (i : Int) = x at *
    have g := hg x hm
    rw [show wrap64 ((i : Int) + 1) = ((i + 1 : Nat) : Int) from by unfold wrap64; omega, u64_small g.1 (by have := g.2.1; omega)]
    rw [enc_l0 hl hg kind l1 d (i + 1) j _ _ (by omega) (by simp; omega) (by simp; omega)]
    simp [wd, nm]
theorem enc_data {l1 : List Int} {l : List S41} (h1 : l1.length ≤ 100) (hl : l.length ≤ 4) (hR : rightB (-1) l = true) (hnn : ∀ x ∈ l, Nn x) {k : Nat} (hk : 500 < k) :
    ∃ r, cell_Encode.f k 1 l1 l = some (r ++ l1, 0) ∧ Packed (ws l) (vs l1.length l) r := by
  have hg := right_good hR (by decide)
  obtain ⟨r, hp, hr⟩ := pack_ok (v8_all h1 hl hg hnn) (by rw [ws_len, vs_len]) (by rw [ws_len]; omega) (fit_all h1 hl hg hnn) (k := k - l.length - 1) (by omega)
  refine ⟨r, ?_, hr⟩
  unfold cell_Encode.f cell_Right.f
  rw [Option.bind_some, if_neg (show ¬ (1 : Int) = 2 by decide), if_pos (by simp [h1, hl, hR]), if_neg (show ¬ (1 : Int) = 2 by decide)]
  have e := enc_l0 hl hg 1 l1 l.length 0 (k - l.length - 1) [2, 3, 7] [1, (l.length : Int), (l1.length : Int)] (by omega) (by simp; omega) (by simp; omega)
  rw [show k - l.length - 1 + l.length + 1 = k from by omega] at e
  rw [u64_small (by decide) (by decide), u64_small (by omega) (by omega), u64_small (by omega) (by omega)]
  refine e.trans ?_
  rw [List.drop_zero]
  show (bits_Pack.f _ (ws l) (vs l1.length l)).bind _ = _
  have hlen := hr.len
  rw [pos_all] at hlen
  rw [hp, Option.bind_some, if_pos (by simp; omega)]
theorem enc_junk (k : Nat) : cell_Encode.f k 2 [] [] = some ([2], 0) := rfl
theorem enc_no {kind : Int} {l1 : List Int} {l : List S41} (h : cell_Right.f kind l1 l = some false) (k : Nat) : cell_Encode.f k kind l1 l = some ([], 71) := by
  unfold cell_Encode.f
  rw [h, Option.bind_some, if_neg (by decide)]
/-- A cell is not right, or junk, or of data. -/
theorem cases_right (kind : Int) (l1 : List Int) (l : List S41) : cell_Right.f kind l1 l = some false ∨ (kind = 2 ∧ l1 = [] ∧ l = [] ∧ cell_Right.f kind l1 l = some true) ∨ (kind = 1 ∧ l1.length ≤ 100 ∧ l.length ≤ 4 ∧ rightB (-1) l = true ∧ cell_Right.f kind l1 l = some true) := by
  unfold cell_Right.f
  by_cases h2 : kind = 2
  · rw [if_pos h2]
    by_cases h : l1 = [] ∧ l = []
    · exact .inr (.inl ⟨h2, h.1, h.2, by simp [h.1, h.2]⟩)
    · refine .inl ?_
      congr 1
      simp only [List.length_eq_zero_iff, Bool.and_eq_false_iff, decide_eq_false_iff_not]
      by_cases q : l1 = []
      · exact .inr fun p => h ⟨q, p⟩
      · exact .inl q
  · rw [if_neg h2]
    cases hz : (decide (kind = 1) && decide (l1.length ≤ 100) && decide (l.length ≤ 4) && rightB (-1) l) with
    | false => exact .inl rfl
    | true =>
      simp only [Bool.and_eq_true, decide_eq_true_eq] at hz
      exact .inr (.inr ⟨hz.1.1.1, hz.1.1.2, hz.1.2, hz.2, rfl⟩)
end Go.Proofs.Ytknjhmclnnjbnaa.Pure
