/- What the code's set and Put write, and that two byte lists with the same bits are one. No condition beyond the ranges that stand in each lemma. -/
import Derived.Test.YtfjcanleekmagaaCnt
namespace Go.Proofs.Ytfjcanleekmagaa.Pure
open Go.RowKit Go.Proofs.Ytfjcanleekmagaa.Fn Go.Proofs.YtfjcanleekmagaaW.PrintWords Go.Proofs.YtfjcanleekmagaaW.PrintLast Go.Proofs.YtfjcanleekmagaaW.PrintMore

def mk (t s : Nat) : Nat := ((2 ^ t - 1) % 256 * 2 ^ s) % 256
theorem mk_bits : ∀ t : Fin 9, ∀ s : Fin 8, t.val + s.val ≤ 8 → mk t s < 256 ∧ ∀ j : Fin 8, (mk t s).testBit j = (decide (s.val ≤ j.val) && decide (j.val < s.val + t.val)) ∧ (255 - mk t s).testBit j = !(decide (s.val ≤ j.val) && decide (j.val < s.val + t.val)) := by decide +kernel
theorem mask_eq {t s : Nat} (ht : t ≤ 8) (hs : s ≤ 7) : shl .u8 (((shl .u8 1 (t : Int)) - 1) % 256) (s : Int) = ((mk t s : Nat) : Int) := by
  have h : ∀ t : Fin 9, ∀ s : Fin 8, shl .u8 (((shl .u8 1 ((t.val : Nat) : Int)) - 1) % 256) ((s.val : Nat) : Int) = ((mk t s : Nat) : Int) := by decide +kernel
  exact h ⟨t, by omega⟩ ⟨s, by omega⟩
def pt (v r s : Nat) : Nat := (v / 2 ^ r % 256 * 2 ^ s) % 256
theorem pt_eq {v r s : Nat} (hr : r ≤ 64) (hs : s ≤ 7) : shl .u8 ((shr .u64 (v : Int) (r : Int)) % 256) (s : Int) = ((pt v r s : Nat) : Int) := by
  unfold shr shl
  rw [Int.toNat_natCast, Int.toNat_natCast, Nat.min_eq_left (show s ≤ IntKind.u8.bits from by show s ≤ 8; omega), Nat.min_eq_left (show r ≤ IntKind.u64.bits from hr), IntKind.wrap_u8']
  unfold pt
  rw [Int.natCast_emod, Int.natCast_mul, Int.natCast_emod, Int.natCast_ediv, Int.natCast_pow, Int.natCast_pow]; rfl
theorem pt_bit {v r s j : Nat} (hj : j < 8) (hs : s ≤ j) : (pt v r s).testBit j = v.testBit (r + (j - s)) := by
  unfold pt
  rw [show (256 : Nat) = 2 ^ 8 from rfl, Nat.testBit_mod_two_pow, Nat.testBit_mul_two_pow, Nat.testBit_mod_two_pow, Nat.testBit_div_two_pow]
  rw [decide_eq_true hj, decide_eq_true (show s ≤ j from hs), decide_eq_true (show j - s < 8 from by omega), Nat.add_comm r]
  simp only [Bool.true_and]
theorem pt_lt (v r s : Nat) : pt v r s < 256 := Nat.mod_lt _ (by decide)
/-- The byte that a step writes. -/
def nb (c v t r s : Nat) : Nat := (c &&& (255 - mk t s)) ||| (pt v r s &&& mk t s)
theorem nb_eq {c v t r s : Nat} (hc : c < 256) (ht : t ≤ 8) (hs : s ≤ 7) (hts : t + s ≤ 8) (hr : r ≤ 64) :
    Go.bits .or .u8 (Go.bits .andNot .u8 (c : Int) (shl .u8 (((shl .u8 1 (t : Int)) - 1) % 256) (s : Int))) (Go.bits .and .u8 (shl .u8 ((shr .u64 (v : Int) (r : Int)) % 256) (s : Int)) (shl .u8 (((shl .u8 1 (t : Int)) - 1) % 256) (s : Int))) = ((nb c v t r s : Nat) : Int) := by
  have hm : mk t s < 256 := (mk_bits ⟨t, by omega⟩ ⟨s, by omega⟩ hts).1
  have h1 : c &&& (255 - mk t s) < 256 := Nat.lt_of_le_of_lt Nat.and_le_left hc
  have h2 : pt v r s &&& mk t s < 256 := Nat.lt_of_le_of_lt Nat.and_le_right hm
  rw [mask_eq ht hs, pt_eq hr hs, u8_andNot_nat _ _ hc hm, u8_and_nat _ _ (pt_lt v r s) hm, u8_or_nat _ _ h1 h2]; rfl
theorem nb_lt {c v t r s : Nat} (hc : c < 256) (ht : t ≤ 8) (hs : s ≤ 7) (hts : t + s ≤ 8) : nb c v t r s < 256 := by
  have hm : mk t s < 256 := (mk_bits ⟨t, by omega⟩ ⟨s, by omega⟩ hts).1
  have h1 : c &&& (255 - mk t s) < 2 ^ 8 := Nat.lt_of_le_of_lt Nat.and_le_left hc
  have h2 : pt v r s &&& mk t s < 2 ^ 8 := Nat.lt_of_le_of_lt Nat.and_le_right hm
  exact Nat.or_lt_two_pow h1 h2
theorem nb_bit {c v t r s j : Nat} (ht : t ≤ 8) (hs : s ≤ 7) (hts : t + s ≤ 8) (hj : j < 8) :
    (nb c v t r s).testBit j = if s ≤ j ∧ j < s + t then v.testBit (r + (j - s)) else c.testBit j := by
  obtain ⟨e1, e2⟩ := (mk_bits ⟨t, by omega⟩ ⟨s, by omega⟩ hts).2 ⟨j, hj⟩
  simp only at e1 e2
  unfold nb
  rw [Nat.testBit_or, Nat.testBit_and, Nat.testBit_and, e1, e2]
  by_cases h1 : s ≤ j
  · rw [pt_bit hj h1]
    by_cases h2 : j < s + t
    · simp [h1, h2]
    · simp [h1, h2]
  · simp [h1]
theorem bitAt_set {l : List Int} {i : Nat} (hi : i < l.length) (c j : Nat) : bitAt (l.set i (c : Int)) j = if j / 8 = i then c.testBit (7 - j % 8) else bitAt l j := by
  unfold bitAt
  rw [List.getD_eq_getElem?_getD, List.getElem?_set]
  by_cases h : j / 8 = i
  · rw [if_pos h.symm, if_pos hi, if_pos h]; rfl
  · rw [if_neg (fun e => h e.symm), if_neg h, ← List.getD_eq_getElem?_getD]
theorem Byt.set {l : List Int} (hl : Byt l) {i c : Nat} (hc : c < 256) : Byt (l.set i (c : Int)) := by
  intro x hx
  rcases List.mem_or_eq_of_mem_set hx with h | h
  · exact hl x h
  · rw [h]; omega
theorem set_idx {a n t j : Nat} (_ht1 : 1 ≤ t) (ht2 : t ≤ 8 - a % 8) (ht3 : t ≤ n) : j / 8 = a / 8 →
    ((8 - a % 8 - t ≤ 7 - j % 8 ∧ 7 - j % 8 < 8 - a % 8 - t + t) ↔ (a ≤ j ∧ j < a + t)) ∧ (a ≤ j → j < a + t → n - t + (7 - j % 8 - (8 - a % 8 - t)) = a + n - 1 - j) := by
  intro h
  refine ⟨⟨fun h1 => ?_, fun h1 => ?_⟩, fun h1 h2 => ?_⟩
  · constructor <;> omega
  · constructor <;> omega
  · omega
theorem steps2 {a n t : Nat} (hn : n ≤ 64) (ht2 : t ≤ 8 - a % 8) (ht1 : 1 ≤ t) : 8 - a % 8 - t ≤ 7 ∧ t + (8 - a % 8 - t) ≤ 8 ∧ n - t ≤ 64 ∧ a % 8 ≤ 8 ∧ t ≤ 8 - a % 8 := by
  refine ⟨?_, ?_, ?_, ?_, ?_⟩ <;> omega
theorem set_l0 {v : Nat} : ∀ (n k a : Nat) (l : List Int), Byt l → l.length ≤ 1000000 → n < k → n ≤ 64 → a + n ≤ 8 * l.length →
    ∃ r, bits_set.l0 k l (a : Int) (n : Int) (v : Int) = some r ∧ r.length = l.length ∧ Byt r ∧ ∀ j, bitAt r j = if a ≤ j ∧ j < a + n then v.testBit (a + n - 1 - j) else bitAt l j := by
  intro n
  induction n using Nat.strongRecOn with
  | ind n ih =>
    intro k a l hl hL hk hm ha
    obtain ⟨k, rfl⟩ : ∃ j, k = j + 1 := ⟨k - 1, by omega⟩
    by_cases hn : n = 0
    · subst hn
      refine ⟨l, ?_, rfl, hl, fun j => ?_⟩
      · rw [bits_set.l0, if_neg (by decide)]
      · rw [if_neg (by omega)]
    · obtain ⟨ht1, ht2, ht3⟩ := tk_bd (a := a) hn
      obtain ⟨o1, o2, o3, o4, o5, e7, o8, _, o10, hn64, o11, o12, o13⟩ := steps (m := 0) hk (by omega) ha hn hL ht1 ht2 ht3
      obtain ⟨p1, p2, p3, p4, p5⟩ := steps2 hn64 ht2 ht1
      have hc0 := hl.at (a / 8)
      have hc : (l.getD (a / 8) 0).toNat < 256 := by omega
      have e4 := w_add (n := a) (t := tk a n) o11
      have e1 := w_div (a := a) o12
      have e5 := w_sub (n := n) ht3 o13
      have e3 := w_sub (n := 8) (t := a % 8) p4 (by decide)
      rw [show ((8 : Nat) : Int) = 8 from rfl] at e3
      have e6 := w_sub (n := 8 - a % 8) (t := tk a n) p5 (by clear e1 e3 e4 e5; omega)
      have e9 := tk_eq a n hn64
      have hl' : Byt (l.set (a / 8) ((nb (l.getD (a / 8) 0).toNat v (tk a n) (n - tk a n) (8 - a % 8 - tk a n) : Nat) : Int)) := hl.set (nb_lt hc o10 p1 p2)
      obtain ⟨r, hr, hrl, hrb, hrj⟩ := ih (n - tk a n) o2 k (a + tk a n) _ hl' (by rw [List.length_set]; exact hL) o3 (by clear e1 e3 e4 e5 e6 e9; omega) (by rw [List.length_set]; exact o5)
      refine ⟨r, ?_, by rw [hrl, List.length_set], hrb, fun j => ?_⟩
      · rw [bits_set.l0, e9, e1, t_mod a, e3, e6, e5, if_pos (pos_nat hn), if_pos (nat_nn _), if_pos (nat_nn _), if_pos (nat_nn _), if_pos (nat_nn _), if_pos (nat_lt o8), e4, hl.rdN, nb_eq hc o10 p1 p2 p3, Int.toNat_natCast]
        exact hr
      · clear e1 e3 e4 e5 e6 e9
        rw [hrj, bitAt_set o8]
        by_cases h1 : a + tk a n ≤ j ∧ j < a + tk a n + (n - tk a n)
        · rw [if_pos h1, if_pos (by omega)]
          congr 1; omega
        · rw [if_neg h1]
          by_cases h2 : j / 8 = a / 8
          · obtain ⟨q1, q2⟩ := set_idx (j := j) ht1 ht2 ht3 h2
            rw [if_pos h2, nb_bit o10 p1 p2 (by omega)]
            by_cases h3 : a ≤ j ∧ j < a + tk a n
            · rw [if_pos (q1.mpr h3), if_pos (by omega), q2 h3.1 h3.2]
            · rw [if_neg (fun h => h3 (q1.mp h)), if_neg (by omega)]
              unfold bitAt; rw [h2]
          · rw [if_neg h2, if_neg (by omega)]
theorem set_f {v : Nat} {l : List Int} (hl : Byt l) (hL : l.length ≤ 1000000) {k a n : Nat} (hk : 64 < k) (hn : n ≤ 64) (ha : a + n ≤ 8 * l.length) :
    ∃ r, bits_set.f k l (a : Int) (n : Int) (v : Int) = some r ∧ r.length = l.length ∧ Byt r ∧ ∀ j, bitAt r j = if a ≤ j ∧ j < a + n then v.testBit (a + n - 1 - j) else bitAt l j :=
  set_l0 n k a l hl hL (by omega) hn ha

/-- Two byte lists with the same bits are one. -/
theorem same_bits {l r : List Int} (hl : Byt l) (hr : Byt r) (hlen : l.length = r.length) (h : ∀ j, j < 8 * l.length → bitAt l j = bitAt r j) : l = r := by
  apply List.ext_getElem hlen
  intro i h1 h2
  have a1 := hl.mem h1
  have a2 := hr.mem h2
  have e : (l[i]).toNat = (r[i]).toNat := by
    apply Nat.eq_of_testBit_eq; intro t
    by_cases ht : t < 8
    · have := h (8 * i + (7 - t)) (by omega)
      unfold bitAt at this
      rw [show (8 * i + (7 - t)) / 8 = i from by omega, show 7 - (8 * i + (7 - t)) % 8 = t from by omega] at this
      rw [List.getD_eq_getElem?_getD, List.getD_eq_getElem?_getD, List.getElem?_eq_getElem h1, List.getElem?_eq_getElem h2] at this
      exact this
    · have : 2 ^ 8 ≤ 2 ^ t := Nat.pow_le_pow_right (by decide) (by omega)
      rw [Nat.testBit_lt_two_pow (by omega), Nat.testBit_lt_two_pow (by omega)]
  omega
theorem clone_f {l : List Int} (hL : l.length ≤ 1000000) : bytes_Clone.f l = some l := by
  unfold bytes_Clone.f
  rw [Option.bind_some, if_pos (by simp only [List.length_nil]; omega), List.nil_append]
theorem put_ok {v : Nat} {l : List Int} (hl : Byt l) (hL : l.length ≤ 1000000) {k a n : Nat} (hk : 64 < k) (hn : n ≤ 64) (ha : a + n ≤ 8 * l.length) :
    ∃ r, bits_Put.f k l (a : Int) (n : Int) (v : Int) = some (r, true) ∧ r.length = l.length ∧ Byt r ∧ ∀ j, bitAt r j = if a ≤ j ∧ j < a + n then v.testBit (a + n - 1 - j) else bitAt l j := by
  obtain ⟨r, h1, h2⟩ := set_f (v := v) hl hL hk hn ha
  refine ⟨r, ?_, h2⟩
  unfold bits_Put.f
  rw [within_f hL, decide_eq_true (show Ok l a n from by unfold Ok; omega), Option.bind_some, if_pos rfl, clone_f hL, Option.bind_some, h1, Option.bind_some]
theorem put_no {v : Int} {l : List Int} (hL : l.length ≤ 1000000) {k : Nat} {a n : Int} (h : ¬ Ok l a n) : bits_Put.f k l a n v = some ([], false) := by
  unfold bits_Put.f
  rw [within_f hL, decide_eq_false h, Option.bind_some, if_neg (by decide)]
end Go.Proofs.Ytfjcanleekmagaa.Pure
