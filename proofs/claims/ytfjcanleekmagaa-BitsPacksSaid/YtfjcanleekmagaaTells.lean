/- The plain reader's Put, Extend, Reverse and Count against the code's. No condition beyond the ranges that stand in each lemma. -/
import Derived.Test.YtfjcanleekmagaaRef
namespace Go.Proofs.Ytfjcanleekmagaa.Pure
open Go.RowKit Go.Proofs.Ytfjcanleekmagaa.Fn Go.Proofs.YtfjcanleekmagaaW.PrintWords Go.Proofs.YtfjcanleekmagaaW.PrintLast Go.Proofs.YtfjcanleekmagaaW.PrintMore

theorem at1_append (x y : List Int) (j : Nat) : at1 (x ++ y) j = if j < x.length then at1 x j else at1 y (j - x.length) := by
  unfold at1
  rw [List.getD_eq_getElem?_getD, List.getElem?_append]
  by_cases h : j < x.length
  · rw [if_pos h, if_pos h, ← List.getD_eq_getElem?_getD]
  · rw [if_neg h, if_neg h, ← List.getD_eq_getElem?_getD]
theorem at1_take (x : List Int) (n j : Nat) (h : j < n) : at1 (x.take n) j = at1 x j := by
  unfold at1
  rw [List.getD_eq_getElem?_getD, List.getElem?_take, if_pos h, ← List.getD_eq_getElem?_getD]
theorem at1_drop (x : List Int) (n j : Nat) : at1 (x.drop n) j = at1 x (n + j) := by
  unfold at1
  rw [List.getD_eq_getElem?_getD, List.getElem?_drop, ← List.getD_eq_getElem?_getD]
theorem refput_f {l : List Int} (hl : Byt l) (hL : l.length ≤ 10000) {k a n v : Nat} (hk : 16 * l.length + 200 < k) (hn : n ≤ 64) (ha : a + n ≤ 8 * l.length) (hv : v < 18446744073709551616) :
    ∃ r, rotuletref01_Put.f k l (a : Int) (n : Int) (v : Int) = some (r, true) ∧ r.length = l.length ∧ Byt r ∧ ∀ j, j < 8 * l.length → bitAt r j = if a ≤ j ∧ j < a + n then v.testBit (a + n - 1 - j) else bitAt l j := by
  have hL' : l.length ≤ 1000000 := by omega
  have hR : (seg (bitAt l) 0 (8 * l.length)).length = 8 * l.length := seg_len _ _ _
  have hD : (digs v n).length = n := seg_len _ _ _
  have hT : ((seg (bitAt l) 0 (8 * l.length)).take a).length = a := by rw [List.length_take, hR]; omega
  have hU : ((seg (bitAt l) 0 (8 * l.length)).drop (a + n)).length = 8 * l.length - (a + n) := by rw [List.length_drop, hR]
  have hX : ((seg (bitAt l) 0 (8 * l.length)).take a ++ digs v n ++ (seg (bitAt l) 0 (8 * l.length)).drop (a + n)).length = 8 * l.length := by
    rw [List.length_append, List.length_append, hT, hD, hU]; omega
  have hdig : Dig ((seg (bitAt l) 0 (8 * l.length)).take a ++ digs v n ++ (seg (bitAt l) 0 (8 * l.length)).drop (a + n)) := by
    apply dig_mem; intro x hx
    rcases List.mem_append.mp hx with h | h
    · rcases List.mem_append.mp h with h | h
      · exact seg_mem _ _ _ x (List.mem_of_mem_take h)
      · exact seg_mem _ _ _ x h
    · exact seg_mem _ _ _ x (List.mem_of_mem_drop h)
  obtain ⟨r, h1, h2, h3, h4⟩ := bytesof_f hdig (k := k) (by rw [hX]; omega) (by rw [hX]; omega)
  rw [hX] at h2
  refine ⟨r, ?_, by omega, h3, fun j hj => ?_⟩
  · have hw : wrap64 ((a : Int) + (n : Int)) = ((a + n : Nat) : Int) := w_add (by omega)
    unfold rotuletref01_Put.f
    rw [refwithin_f hL', decide_eq_true (show Ok l a n from by unfold Ok; clear hw; omega), Option.bind_some, if_pos rfl, row_f hl hL (by clear hw; omega), Option.bind_some, Option.bind_some, if_pos (nat_nn _), hR,
      if_pos (nat_le (by clear hw; omega)), Option.bind_some, Int.toNat_natCast, hT, if_pos (by simp only [List.length_nil]; clear hw; omega), Option.bind_some, List.nil_append, digits_f hn (by clear hw; omega) hv, Option.bind_some, hT, hD,
      if_pos (by clear hw; omega), Option.bind_some, hw, if_pos (nat_nn _), if_pos (nat_le ha), Option.bind_some, Int.toNat_natCast, List.length_append, hT, hD, hU, if_pos (by clear hw; omega), h1, Option.bind_some]
  · rw [h4, at1_append, List.length_append, hT, hD, at1_append, hT]
    by_cases hj1 : j < a
    · rw [if_pos (by omega), if_pos hj1, at1_take _ _ _ hj1, at1_seg, decide_eq_true hj, if_neg (by omega), Nat.zero_add]; rfl
    · by_cases hj2 : j < a + n
      · rw [if_pos hj2, if_neg hj1, at1_digs, decide_eq_true (by omega), if_pos (by omega)]
        rw [show n - 1 - (j - a) = a + n - 1 - j from by omega]; rfl
      · rw [if_neg hj2, at1_drop, at1_seg, if_neg (by omega), show a + n + (j - (a + n)) = j from by omega, decide_eq_true hj, Nat.zero_add]; rfl
theorem refput_no {l : List Int} (hL : l.length ≤ 1000000) {k : Nat} {a n v : Int} (h : ¬ Ok l a n) : rotuletref01_Put.f k l a n v = some ([], false) := by
  unfold rotuletref01_Put.f
  rw [refwithin_f hL, decide_eq_false h, Option.bind_some, if_neg (by decide)]
theorem W_step {i : Nat} (hi : 1 ≤ i) (u : Int) (b : Bool) : W (i + 1) (2 * u + ((b.toNat : Nat) : Int)) = 2 * W i u + ((b.toNat : Nat) : Int) := by
  have hb : ((b.toNat : Nat) : Int) = 0 ∨ ((b.toNat : Nat) : Int) = 1 := by cases b <;> decide
  unfold W
  rw [show i + 1 - 1 = i from rfl, P_succ, P_half hi]
  have hp := P_pos (i - 1)
  generalize P (i - 1) = p at hp ⊢
  have h1 := Int.mul_ediv_add_emod (u + p) (2 * p)
  have h2 := Int.emod_nonneg (u + p) (show 2 * p ≠ 0 by omega)
  have h3 := Int.emod_lt_of_pos (u + p) (show 0 < 2 * p by omega)
  generalize (u + p) % (2 * p) = r at h1 h2 h3 ⊢
  generalize (u + p) / (2 * p) = q at h1
  generalize ((b.toNat : Nat) : Int) = c at hb ⊢
  have e : 2 * u + c + 2 * p = (2 * r + c) + (2 * (2 * p)) * q := by
    rw [Int.mul_assoc 2 (2 * p) q]
    generalize 2 * p * q = z at h1 ⊢
    omega
  rw [e, Int.add_mul_emod_self_left, Int.emod_eq_of_lt (by omega) (by omega)]
  omega
theorem W_one (b : Bool) : W 1 ((b.toNat : Nat) : Int) = -((b.toNat : Nat) : Int) := by
  cases b <;> decide
theorem refext_l0 (g : Nat → Bool) {w : Nat} (hw : w ≤ 64) : ∀ (d k i : Nat), d < k → 1 ≤ i → i + d = w →
    rotuletref01_Extend.l0 k (seg g 0 w) (W i ((num g 0 i : Nat) : Int)) (i : Int) = some (W w ((num g 0 w : Nat) : Int)) := by
  intro d
  induction d with
  | zero =>
    intro k i hk _ hi
    obtain ⟨k, rfl⟩ : ∃ j, k = j + 1 := ⟨k - 1, by omega⟩
    have hi : i = w := hi
    subst hi
    rw [rotuletref01_Extend.l0, seg_len, if_neg (int_irrefl _)]
  | succ d ih =>
    intro k i hk h1 hi
    obtain ⟨k, rfl⟩ : ∃ j, k = j + 1 := ⟨k - 1, by omega⟩
    have o1 : i < w := by omega
    have o2 : ¬ (i : Int) = 0 := by omega
    have o3 : i < 100000000 := by omega
    have o4 : d < k := by omega
    have o5 : 1 ≤ i + 1 := by omega
    have o6 : i + 1 + d = w := by omega
    have hb := W_bd h1 ((num g 0 i : Nat) : Int)
    have hp : P (i - 1) ≤ P 62 := P_mono (by omega)
    have hp2 : P 62 = 4611686018427387904 := by decide
    have hc : 0 ≤ (((g i).toNat : Nat) : Int) ∧ (((g i).toNat : Nat) : Int) ≤ 1 := by cases g i <;> decide
    have e0 : rd (seg g 0 w) (i : Int) = (((g i).toNat : Nat) : Int) := by
      unfold rd; rw [Int.toNat_natCast, List.getD_eq_getElem?_getD, seg_get, if_pos o1, Nat.zero_add]; rfl
    have e3 : W (i + 1) ((num g 0 (i + 1) : Nat) : Int) = 2 * W i ((num g 0 i : Nat) : Int) + (((g i).toNat : Nat) : Int) := by
      rw [← W_step h1, num, Nat.zero_add, Int.natCast_add, Int.natCast_mul]; rfl
    rw [rotuletref01_Extend.l0, seg_len, if_pos (nat_lt o1), if_neg o2, if_pos (nat_nn _), e0, w_succ o3]
    have e1 : wrap64 (wrap64 (2 * W i ((num g 0 i : Nat) : Int)) + (((g i).toNat : Nat) : Int)) = 2 * W i ((num g 0 i : Nat) : Int) + (((g i).toNat : Nat) : Int) := by
      clear e0 e3
      generalize (((g i).toNat : Nat) : Int) = c at hc ⊢
      generalize W i ((num g 0 i : Nat) : Int) = z at hb ⊢
      rw [w64 (x := 2 * z) (by omega) (by omega), w64 (by omega) (by omega)]
    rw [e1, ← e3]
    exact ih k (i + 1) o4 o5 o6
theorem num_low (v w : Nat) : num (fun j => v.testBit (w - 1 - j)) 0 w = v % 2 ^ w := by
  symm; apply num_of; intro t
  rw [Nat.testBit_mod_two_pow]
  by_cases ht : t < w
  · rw [show w - 1 - (0 + (w - 1 - t)) = t from by omega]
  · rw [decide_eq_false ht]; rfl
theorem refextend_f {v : Nat} (hv : v < 18446744073709551616) {n : Int} {k : Nat} (hk : 100 < k) : rotuletref01_Extend.f k (v : Int) n = some (ext (v : Int) (wd n)) := by
  have hw := wd_le n
  have hwf : rotuletref01_Width.f n = some ((wd n : Nat) : Int) := by rw [← width_f]; rfl
  unfold rotuletref01_Extend.f
  rw [hwf, Option.bind_some, digits_f hw (by omega) hv, Option.bind_some]
  unfold ext
  generalize wd n = w at hw
  obtain ⟨k, rfl⟩ : ∃ j, k = j + 1 := ⟨k - 1, by omega⟩
  by_cases h : w = 0
  · rw [if_pos h]; subst h
    rw [rotuletref01_Extend.l0]
    rw [show (digs v 0).length = 0 from rfl, if_neg (by decide)]
  · rw [if_neg h]
    have hlen : (digs v w).length = w := seg_len _ _ _
    have e0 : rd (digs v w) 0 = (((v.testBit (w - 1)).toNat : Nat) : Int) := by
      unfold rd digs; rw [List.getD_eq_getElem?_getD, show Int.toNat 0 = 0 from rfl, seg_get, if_pos (by omega)]; rfl
    have e1 : wrap64 (wrap64 (2 * 0) - (((v.testBit (w - 1)).toNat : Nat) : Int)) = W 1 ((num (fun j => v.testBit (w - 1 - j)) 0 1 : Nat) : Int) := by
      have : num (fun j => v.testBit (w - 1 - j)) 0 1 = (v.testBit (w - 1)).toNat := by
        rw [num, num]; simp
      rw [this, W_one]
      cases v.testBit (w - 1) <;> decide +kernel
    have e2 : wrap64 (0 + 1) = ((1 : Nat) : Int) := by decide +kernel
    rw [rotuletref01_Extend.l0, hlen, if_pos (by omega), if_pos rfl, if_pos (by decide), e0, e1, e2]
    have := refext_l0 (fun j => v.testBit (w - 1 - j)) hw (w - 1) k 1 (by omega) (by omega) (by omega)
    rw [num_low] at this
    unfold digs
    rw [this]
    congr 1
    refine W_congr ?_
    refine ⟨-((v : Int) / P w), ?_⟩
    have h2 := Int.mul_ediv_add_emod (v : Int) (P w)
    rw [Int.natCast_emod, ← P_nat]
    generalize (v : Int) % P w = r at h2 ⊢
    rw [Int.mul_neg]
    generalize P w * ((v : Int) / P w) = q at h2 ⊢
    omega
theorem refrev_l0 {v w : Nat} (hw : w ≤ 64) : ∀ (d k m : Nat), d < k → m + d = w →
    rotuletref01_Reverse.l0 k (digs v w) ((num (fun j => v.testBit j) 0 m : Nat) : Int) ((d : Int) - 1) = some ((rv v w : Nat) : Int) := by
  intro d
  induction d with
  | zero =>
    intro k m hk hm
    obtain ⟨k, rfl⟩ : ∃ j, k = j + 1 := ⟨k - 1, by omega⟩
    have hm : m = w := hm
    subst hm
    rw [rotuletref01_Reverse.l0, if_neg (by decide)]; rfl
  | succ d ih =>
    intro k m hk hm
    obtain ⟨k, rfl⟩ : ∃ j, k = j + 1 := ⟨k - 1, by omega⟩
    have o1 : d < w := by omega
    have o2 : m + 1 ≤ 64 := by omega
    have o3 : d < k := by omega
    have o4 : m + 1 + d = w := by omega
    have hlen : (digs v w).length = w := seg_len _ _ _
    have e0 : ((d + 1 : Nat) : Int) - 1 = (d : Int) := by omega
    have e1 : wrap64 ((d : Int) - 1) = (d : Int) - 1 := w64 (by omega) (by omega)
    have e2 : rd (digs v w) (d : Int) = (((v.testBit m).toNat : Nat) : Int) := by
      unfold rd digs; rw [Int.toNat_natCast, List.getD_eq_getElem?_getD, seg_get, if_pos o1, Nat.zero_add]
      rw [show w - 1 - d = m from by clear e1; omega]; rfl
    have e3 : 2 * num (fun j => v.testBit j) 0 m + (v.testBit m).toNat = num (fun j => v.testBit j) 0 (m + 1) := by rw [num, Nat.zero_add]
    rw [e0, rotuletref01_Reverse.l0, if_pos (nat_nn _), if_pos (nat_nn _), hlen, if_pos (nat_lt o1), e2, dbl (num_lt _ 0 m) o2, e3, e1]
    exact ih k (m + 1) o3 o4
theorem refreverse_f {v : Nat} (hv : v < 18446744073709551616) {n : Int} {k : Nat} (hk : 100 < k) : rotuletref01_Reverse.f k (v : Int) n = some ((rv v (wd n) : Nat) : Int) := by
  have hw := wd_le n
  have hwf : rotuletref01_Width.f n = some ((wd n : Nat) : Int) := by rw [← width_f]; rfl
  unfold rotuletref01_Reverse.f
  rw [hwf, Option.bind_some, digits_f hw (by omega) hv, Option.bind_some]
  have hlen : (digs v (wd n)).length = wd n := seg_len _ _ _
  rw [hlen, w64 (by omega) (by omega)]
  exact refrev_l0 hw (wd n) k 0 (by omega) (Nat.zero_add _)

/-! Count. -/
def tot (f : Nat → Bool) (a : Nat) : Nat → Nat
  | 0 => 0
  | n + 1 => tot f a n + (f (a + n)).toNat
theorem tot_le (f : Nat → Bool) (a : Nat) : ∀ n, tot f a n ≤ n
  | 0 => by simp [tot]
  | n + 1 => by
    have := tot_le f a n
    have hb : (f (a + n)).toNat ≤ 1 := by cases f (a + n) <;> decide
    rw [tot]; omega
theorem tot_add (f : Nat → Bool) (a m : Nat) : ∀ n, tot f a (m + n) = tot f a m + tot f (a + m) n
  | 0 => by simp [tot]
  | n + 1 => by rw [← Nat.add_assoc, tot, tot_add f a m n, tot, Nat.add_assoc, Nat.add_assoc a m n]
theorem ones_bits : ∀ c : Fin 256, Lib.onesCount c.val = (c.val.testBit 7).toNat + (c.val.testBit 6).toNat + (c.val.testBit 5).toNat + (c.val.testBit 4).toNat + (c.val.testBit 3).toNat + (c.val.testBit 2).toNat + (c.val.testBit 1).toNat + (c.val.testBit 0).toNat := by decide +kernel
theorem tot_byte {l : List Int} (hl : Byt l) (i : Nat) : tot (bitAt l) (8 * i) 8 = Lib.onesCount (l.getD i 0).toNat := by
  have h := hl.at i
  have h2 := ones_bits ⟨(l.getD i 0).toNat, by omega⟩
  simp only at h2
  have hj : ∀ j, j < 8 → bitAt l (8 * i + j) = (l.getD i 0).toNat.testBit (7 - j) := by
    intro j hj
    unfold bitAt
    rw [show (8 * i + j) / 8 = i from by omega, show (8 * i + j) % 8 = j from by omega]
  rw [h2]
  simp only [tot]
  rw [hj 0 (by decide), hj 1 (by decide), hj 2 (by decide), hj 3 (by decide), hj 4 (by decide), hj 5 (by decide), hj 6 (by decide), hj 7 (by decide), Nat.zero_add]
theorem tot_cnt {l : List Int} (hl : Byt l) : ∀ m, m ≤ l.length → tot (bitAt l) 0 (8 * m) = cnt (l.take m)
  | 0, _ => by simp [tot, cnt]
  | m + 1, h => by
    have hm : m < l.length := by omega
    rw [show 8 * (m + 1) = 8 * m + 8 from by omega, tot_add, tot_cnt hl m (by omega), Nat.zero_add, tot_byte hl, List.take_succ_eq_append_getElem hm, cnt_append, cnt, cnt, Nat.add_zero]
    rw [List.getD_eq_getElem?_getD, List.getElem?_eq_getElem hm]; rfl
theorem refcount_l0 (g : Nat → Bool) {n : Nat} (hn : n ≤ 1000000) : ∀ (d k i : Nat), d < k → i + d = n →
    rotuletref01_Count.l0 k (seg g 0 n) ((tot g 0 i : Nat) : Int) (i : Int) = some ((tot g 0 n : Nat) : Int) := by
  intro d
  induction d with
  | zero =>
    intro k i hk hi
    obtain ⟨k, rfl⟩ : ∃ j, k = j + 1 := ⟨k - 1, by omega⟩
    have hi : i = n := hi
    subst hi
    rw [rotuletref01_Count.l0, seg_len, if_neg (int_irrefl _)]
  | succ d ih =>
    intro k i hk hi
    obtain ⟨k, rfl⟩ : ∃ j, k = j + 1 := ⟨k - 1, by omega⟩
    have o1 : i < n := by omega
    have o2 : i < 100000000 := by omega
    have o3 : d < k := by omega
    have o4 : i + 1 + d = n := by omega
    have h1 := tot_le g 0 (i + 1)
    have e0 : rd (seg g 0 n) (i : Int) = (((g i).toNat : Nat) : Int) := by
      unfold rd; rw [Int.toNat_natCast, List.getD_eq_getElem?_getD, seg_get, if_pos o1, Nat.zero_add]; rfl
    have e1 : tot g 0 (i + 1) = tot g 0 i + (g i).toNat := by rw [tot, Nat.zero_add]
    have e2 : wrap64 (((tot g 0 i : Nat) : Int) + (((g i).toNat : Nat) : Int)) = ((tot g 0 (i + 1) : Nat) : Int) := by
      rw [e1] at h1 ⊢
      exact w_add (by clear e0; omega)
    rw [rotuletref01_Count.l0, seg_len, if_pos (nat_lt o1), if_pos (nat_nn _), e0, e2, w_succ o2]
    exact ih k (i + 1) o3 o4
theorem refcount_f {l : List Int} (hl : Byt l) (hL : l.length ≤ 10000) {k : Nat} (hk : 8 * l.length + 10 < k) : rotuletref01_Count.f k l = some ((cnt l : Nat) : Int) := by
  unfold rotuletref01_Count.f
  rw [row_f hl hL hk, Option.bind_some]
  have := refcount_l0 (bitAt l) (n := 8 * l.length) (by omega) (8 * l.length) k 0 (by omega) (Nat.zero_add _)
  rw [tot_cnt hl _ (Nat.le_refl _), List.take_length] at this
  exact this
end Go.Proofs.Ytfjcanleekmagaa.Pure
