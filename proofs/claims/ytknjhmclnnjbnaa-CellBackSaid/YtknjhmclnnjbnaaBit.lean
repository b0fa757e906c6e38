/- Bits of bytes: reading, putting and packing numbers of bits, as in layer 1; conditions: as each theorem names them. -/
import Derived.Test.YtknjhmclnnjbnaaFn3
import Derived.Laws.BitsAllLaws
import Derived.Laws.Bits64
import Derived.Lib.ItoaNum
namespace Go.Proofs.Ytknjhmclnnjbnaa.Pure
open Go.RowKit Go.Proofs.Ytknjhmclnnjbnaa.Fn Go.Proofs.YtknjhmclnnjbnaaW.PrintWords Go.Proofs.YtknjhmclnnjbnaaW.PrintLast Go.Proofs.YtknjhmclnnjbnaaW.PrintMore
theorem wf_i64 {x : Int} (h : (Lit.int .i64 x).wf = true) : -9223372036854775808 ≤ x ∧ x < 9223372036854775808 := by
  simp [Lit.wf, IntKind.min, IntKind.max, IntKind.bits, IntKind.signed] at h
  omega
theorem wf_u64 {x : Int} (h : (Lit.int .u64 x).wf = true) : 0 ≤ x ∧ x < 18446744073709551616 := by
  simp [Lit.wf, IntKind.min, IntKind.max, IntKind.bits, IntKind.signed] at h
  omega
theorem wf_u8 {x : Int} (h : (Lit.int .u8 x).wf = true) : 0 ≤ x ∧ x < 256 := by
  simp [Lit.wf, IntKind.min, IntKind.max, IntKind.bits, IntKind.signed] at h
  omega
theorem w64 {x : Int} (h0 : -9223372036854775808 ≤ x) (h1 : x < 9223372036854775808) : wrap64 x = x := by unfold wrap64; omega
theorem u64_eq (x : Int) : IntKind.u64.wrap x = x % 18446744073709551616 := IntKind.wrap_u64 x
theorem tmod_nat (n m : Nat) : ((n : Int)).tmod (m : Int) = ((n % m : Nat) : Int) := by rw [Int.tmod_eq_emod_of_nonneg (by omega)]; omega
theorem tdiv_nat (n m : Nat) : ((n : Int)).tdiv (m : Int) = ((n / m : Nat) : Int) := by rw [Int.tdiv_eq_ediv_of_nonneg (by omega)]; omega

/-- A list of bytes. -/
def Byt (l : List Int) : Prop := ∀ x ∈ l, 0 ≤ x ∧ x < 256
theorem Byt.at {l : List Int} (h : Byt l) (i : Nat) : 0 ≤ l.getD i 0 ∧ l.getD i 0 < 256 := by
  by_cases hi : i < l.length
  · rw [List.getD_eq_getElem?_getD, List.getElem?_eq_getElem hi]
    exact h _ (List.getElem_mem hi)
  · rw [List.getD_eq_getElem?_getD, List.getElem?_eq_none (by omega)]
    decide
/-- The bit with the number i, the highest of the first byte first. -/
def bitAt (l : List Int) (i : Nat) : Bool := (l.getD (i / 8) 0).toNat.testBit (7 - i % 8)
/-- The number that n bits from a on write. -/
def num (f : Nat → Bool) (a : Nat) : Nat → Nat
  | 0 => 0
  | n + 1 => 2 * num f a n + (f (a + n)).toNat
theorem num_lt (f : Nat → Bool) (a : Nat) : ∀ n, num f a n < 2 ^ n
  | 0 => by simp [num]
  | n + 1 => by
    have := num_lt f a n
    have hb : (f (a + n)).toNat ≤ 1 := by cases f (a + n) <;> decide
    rw [num, Nat.pow_succ]; omega
theorem num_lt64 (f : Nat → Bool) (a : Nat) {n : Nat} (h : n ≤ 64) : num f a n < 18446744073709551616 :=
  Nat.lt_of_lt_of_le (num_lt f a n) (Nat.pow_le_pow_right (by decide) h)
theorem num_add (f : Nat → Bool) (a m : Nat) : ∀ n, num f a (m + n) = num f a m * 2 ^ n + num f (a + m) n
  | 0 => by simp [num]
  | n + 1 => by
    rw [← Nat.add_assoc, num, num_add f a m n, num, Nat.pow_succ, ← Nat.mul_assoc, Nat.add_assoc a m n]
    omega
theorem num_bit (f : Nat → Bool) (a : Nat) : ∀ n t, (num f a n).testBit t = (decide (t < n) && f (a + (n - 1 - t)))
  | 0, t => by simp [num]
  | n + 1, 0 => by
    rw [num, Nat.testBit_zero]
    cases h : f (a + n) <;> simp [h] <;> omega
  | n + 1, t + 1 => by
    have hb : (f (a + n)).toNat ≤ 1 := by cases f (a + n) <;> decide
    rw [num, Nat.testBit_succ, show (2 * num f a n + (f (a + n)).toNat) / 2 = num f a n from by omega, num_bit f a n t]
    rw [show n + 1 - 1 - (t + 1) = n - 1 - t from by omega]
    simp
theorem num_of {f : Nat → Bool} {a n v : Nat} (h : ∀ t, v.testBit t = (decide (t < n) && f (a + (n - 1 - t)))) : v = num f a n :=
  Nat.eq_of_testBit_eq fun t => by rw [h, num_bit]
def tk (a n : Nat) : Nat := min (8 - a % 8) n
theorem tk_eq (a n : Nat) (_hn : n ≤ 64) : mn (wrap64 (8 - (Int.tmod (a : Int) 8))) (n : Int) = ((tk a n : Nat) : Int) := by
  rw [show (8 : Int) = ((8 : Nat) : Int) from rfl, tmod_nat, w64 (by omega) (by omega)]
  unfold mn tk; split <;> omega
theorem part_eq {f : Nat → Bool} {c a t : Nat} (h1 : 1 ≤ t) (h2 : t ≤ 8 - a % 8) (hf : ∀ j, j < 8 → f (8 * (a / 8) + j) = c.testBit (7 - j)) :
    IntKind.u64.wrap (shr .u8 (shl .u8 (c : Int) ((a % 8 : Nat) : Int)) ((8 - t : Nat) : Int)) = ((num f a t : Nat) : Int) := by
  unfold shr shl
  rw [Int.toNat_natCast, Int.toNat_natCast, Nat.min_eq_left (show a % 8 ≤ IntKind.u8.bits from by show a % 8 ≤ 8; omega), Nat.min_eq_left (show 8 - t ≤ IntKind.u8.bits from by show 8 - t ≤ 8; omega), IntKind.wrap_u8']
  have e : (((c : Int) * 2 ^ (a % 8)) % 256 / 2 ^ (8 - t)) = (((c * 2 ^ (a % 8)) % 2 ^ 8 / 2 ^ (8 - t) : Nat) : Int) := by
    rw [Int.natCast_ediv, Int.natCast_emod, Int.natCast_mul, Int.natCast_pow, Int.natCast_pow]; rfl
  rw [e, u64_eq]
  have hN : (c * 2 ^ (a % 8)) % 2 ^ 8 / 2 ^ (8 - t) = num f a t := by
    apply num_of; intro s
    rw [Nat.testBit_div_two_pow, Nat.testBit_mod_two_pow, Nat.testBit_mul_two_pow]
    by_cases hs : s < t
    · have e1 : a + (t - 1 - s) = 8 * (a / 8) + (a % 8 + (t - 1 - s)) := by omega
      rw [e1, hf _ (by omega)]
      rw [show 7 - (a % 8 + (t - 1 - s)) = s + (8 - t) - a % 8 from by omega]
      rw [decide_eq_true hs, decide_eq_true (show s + (8 - t) < 8 from by omega), decide_eq_true (show a % 8 ≤ s + (8 - t) from by omega)]
      simp only [Bool.true_and]
    · rw [decide_eq_false hs, decide_eq_false (show ¬ s + (8 - t) < 8 from by omega)]; rfl
  rw [hN]
  have := num_lt64 f a (n := t) (by omega)
  omega
theorem join64 {x p m t : Nat} (hx : x < 2 ^ m) (hp : p < 2 ^ t) (hm : m + t ≤ 64) : Go.bits .or .u64 (shl .u64 (x : Int) (t : Int)) (p : Int) = ((x * 2 ^ t + p : Nat) : Int) := by
  have h1 : x * 2 ^ t + p < 18446744073709551616 := by
    have e : x * 2 ^ t + p < 2 ^ (m + t) := by
      rw [Nat.pow_add]
      have := Nat.mul_le_mul_right (2 ^ t) (show x + 1 ≤ 2 ^ m from hx)
      rw [Nat.add_mul] at this; omega
    exact Nat.lt_of_lt_of_le e (Nat.pow_le_pow_right (by decide) hm)
  unfold shl
  rw [Int.toNat_natCast, Nat.min_eq_left (show t ≤ IntKind.u64.bits from by show t ≤ 64; omega), u64_eq]
  have e : ((x : Int) * 2 ^ t) % 18446744073709551616 = ((x * 2 ^ t : Nat) : Int) := by
    have e0 : (x : Int) * 2 ^ t = ((x * 2 ^ t : Nat) : Int) := by rw [Int.natCast_mul, Int.natCast_pow]; rfl
    rw [e0]; omega
  rw [e, u64_or_nat _ _ (by omega) (by omega), nat_join t _ _ (Nat.mul_mod_left _ _) hp]
theorem steps {a n L t m k : Nat} (hk : n < k + 1) (hm : m + n ≤ 64) (ha : a + n ≤ 8 * L) (_hn : ¬ n = 0) (hL : L ≤ 1000000) (ht1 : 1 ≤ t) (ht2 : t ≤ 8 - a % 8) (ht3 : t ≤ n) :
    m + t ≤ 64 ∧ n - t < n ∧ n - t < k ∧ m + t + (n - t) ≤ 64 ∧ a + t + (n - t) ≤ 8 * L ∧ n = t + (n - t) ∧ a / 8 < L ∧ 8 - a % 8 - t ≤ 7 ∧ t ≤ 8 ∧ n ≤ 64 ∧ a + t ≤ 100000000 ∧ a ≤ 100000000 ∧ n ≤ 1000 := by
  refine ⟨?_, ?_, ?_, ?_, ?_, ?_, ?_, ?_, ?_, ?_, ?_, ?_, ?_⟩ <;> omega
theorem w_sub {n t : Nat} (h : t ≤ n) (h2 : n ≤ 1000) : wrap64 ((n : Int) - (t : Int)) = ((n - t : Nat) : Int) := by
  rw [w64 (by omega) (by omega)]; omega
theorem w_add {n t : Nat} (h2 : n + t ≤ 100000000) : wrap64 ((n : Int) + (t : Int)) = ((n + t : Nat) : Int) := by
  rw [w64 (by omega) (by omega)]; omega
theorem pos_nat {n : Nat} (h : n ≠ 0) : (n : Int) > 0 := by omega
theorem nat_lt {a b : Nat} (h : a < b) : (a : Int) < (b : Int) := by omega
theorem nat_nn (a : Nat) : (0 : Int) ≤ (a : Int) := by omega
theorem w_div {a : Nat} (h : a ≤ 100000000) : wrap64 (Int.tdiv (a : Int) 8) = ((a / 8 : Nat) : Int) := by
  rw [show (8 : Int) = ((8 : Nat) : Int) from rfl, tdiv_nat, w64 (by omega) (by omega)]
theorem t_mod (a : Nat) : Int.tmod (a : Int) 8 = ((a % 8 : Nat) : Int) := tmod_nat a 8
theorem tk_bd {a n : Nat} (hn : ¬ n = 0) : 1 ≤ tk a n ∧ tk a n ≤ 8 - a % 8 ∧ tk a n ≤ n := by unfold tk; omega
theorem Byt.rdN {l : List Int} (h : Byt l) (i : Nat) : rd l (i : Int) = (((l.getD i 0).toNat : Nat) : Int) := by
  have := h.at i
  unfold rd; rw [Int.toNat_natCast]; omega
theorem bitAt_in {l : List Int} {a j : Nat} (hj : j < 8) : bitAt l (8 * (a / 8) + j) = (l.getD (a / 8) 0).toNat.testBit (7 - j) := by
  unfold bitAt
  rw [show (8 * (a / 8) + j) / 8 = a / 8 from by omega, show (8 * (a / 8) + j) % 8 = j from by omega]
theorem grow {x p m t : Nat} (hx : x < 2 ^ m) (hp : p < 2 ^ t) : x * 2 ^ t + p < 2 ^ (m + t) := by
  rw [Nat.pow_add]
  have := Nat.mul_le_mul_right (2 ^ t) (show x + 1 ≤ 2 ^ m from hx)
  rw [Nat.add_mul] at this; omega
theorem get_l0 {l : List Int} (hl : Byt l) (hL : l.length ≤ 1000000) : ∀ (n k a m x : Nat), n < k → m + n ≤ 64 → a + n ≤ 8 * l.length → x < 2 ^ m →
    bits_Get.l0 k l (a : Int) (n : Int) (x : Int) = some (((x * 2 ^ n + num (bitAt l) a n : Nat) : Int), true) := by
  intro n
  induction n using Nat.strongRecOn with
  | ind n ih =>
    intro k a m x hk hm ha
    obtain ⟨k, rfl⟩ : ∃ j, k = j + 1 := ⟨k - 1, by omega⟩
    by_cases hn : n = 0
    · subst hn
      intro _
      rw [bits_Get.l0, if_neg (by decide)]
      simp [num]
    · obtain ⟨ht1, ht2, ht3⟩ := tk_bd (a := a) hn
      obtain ⟨o1, o2, o3, o4, o5, e7, o8, _, o10, hn64, o11, o12, o13⟩ := steps hk hm ha hn hL ht1 ht2 ht3
      have e4 := w_add (n := a) (t := tk a n) o11
      have e1 := w_div (a := a) o12
      have e5 := w_sub (n := n) ht3 o13
      have e3 := w_sub (n := 8) (t := tk a n) o10 (by decide)
      rw [show ((8 : Nat) : Int) = 8 from rfl] at e3
      have e8 := part_eq (f := bitAt l) (c := (l.getD (a / 8) 0).toNat) (a := a) (t := tk a n) ht1 ht2 (fun j hj => bitAt_in hj)
      have e9 := tk_eq a n hn64
      intro hx
      rw [bits_Get.l0, e9, e1, e3, t_mod a, if_pos (pos_nat hn), if_pos (nat_nn _), if_pos (nat_lt o8), if_pos (nat_nn _), if_pos (nat_nn _), if_pos (nat_nn _), e4, e5, hl.rdN, e8]
      have hp := num_lt (bitAt l) a (tk a n)
      rw [join64 hx hp o1]
      have hxx := grow hx hp
      rw [ih (n - tk a n) o2 k (a + tk a n) (m + tk a n) _ o3 o4 o5 hxx]
      have e8 := num_add (bitAt l) a (tk a n) (n - tk a n)
      rw [← e7] at e8
      have e9 : (2 : Nat) ^ n = 2 ^ tk a n * 2 ^ (n - tk a n) := by rw [← Nat.pow_add, ← e7]
      rw [e8, e9, Nat.add_mul, ← Nat.mul_assoc, Nat.add_assoc]
def Ok (l : List Int) (a n : Int) : Prop := 0 ≤ n ∧ n ≤ 64 ∧ 0 ≤ a ∧ a + n ≤ 8 * (l.length : Int)
instance (l : List Int) (a n : Int) : Decidable (Ok l a n) := by unfold Ok; infer_instance
theorem within_f {l : List Int} (hL : l.length ≤ 1000000) (a n : Int) : bits_within.f l a n = some (decide (Ok l a n)) := by
  have hok : Ok l a n ↔ (0 ≤ n ∧ n ≤ 64 ∧ 0 ≤ a ∧ a + n ≤ 8 * (l.length : Int)) := Iff.rfl
  unfold bits_within.f
  rw [w64 (x := 8 * (l.length : Int)) (by omega) (by omega)]
  split
  · split
    · split
      · split
        · rw [w64 (by omega) (by omega)]
          congr 1
          apply decide_eq_decide.mpr; rw [hok]; omega
        · rw [decide_eq_false (fun h => by have := hok.mp h; omega)]
      · rw [decide_eq_false (fun h => by have := hok.mp h; omega)]
    · rw [decide_eq_false (fun h => by have := hok.mp h; omega)]
  · rw [decide_eq_false (fun h => by have := hok.mp h; omega)]
theorem get_ok {l : List Int} (hl : Byt l) (hL : l.length ≤ 1000000) {k a n : Nat} (hk : 64 < k) (hn : n ≤ 64) (ha : a + n ≤ 8 * l.length) :
    bits_Get.f k l (a : Int) (n : Int) = some (((num (bitAt l) a n : Nat) : Int), true) := by
  unfold bits_Get.f
  rw [within_f hL, decide_eq_true (show Ok l a n from by unfold Ok; omega), Option.bind_some, if_pos rfl]
  have := get_l0 hl hL n k a 0 0 (by omega) (by omega) ha (by decide)
  rw [show ((0 : Nat) : Int) = 0 from rfl] at this
  rw [this]; simp
theorem get_no {l : List Int} (hL : l.length ≤ 1000000) {k : Nat} {a n : Int} (h : ¬ Ok l a n) : bits_Get.f k l a n = some (0, false) := by
  unfold bits_Get.f
  rw [within_f hL, decide_eq_false h, Option.bind_some, if_neg (by decide)]
theorem get_f {l : List Int} (hl : Byt l) (hL : l.length ≤ 1000000) {k : Nat} (hk : 64 < k) (a n : Int) :
    bits_Get.f k l a n = some (if Ok l a n then (((num (bitAt l) a.toNat n.toNat : Nat) : Int), true) else (0, false)) := by
  by_cases h : Ok l a n
  · rw [if_pos h]
    unfold Ok at h
    have := get_ok hl hL hk (a := a.toNat) (n := n.toNat) (by omega) (by omega)
    rwa [Int.toNat_of_nonneg (by omega), Int.toNat_of_nonneg (by omega)] at this
  · rw [if_neg h, get_no hL h]

/-! The plain reader's Bit and Get. -/
theorem int_irrefl (a : Int) : ¬ a < a := by omega
theorem w_succ {n : Nat} (h : n < 100000000) : wrap64 ((n : Int) + 1) = ((n + 1 : Nat) : Int) := by
  have := w_add (n := n) (t := 1) (by omega)
  rwa [show ((1 : Nat) : Int) = 1 from rfl] at this
theorem Byt.mem {l : List Int} (h : Byt l) {i : Nat} (hi : i < l.length) : 0 ≤ l[i] ∧ l[i] < 256 := h _ (List.getElem_mem hi)
def mk (t s : Nat) : Nat := ((2 ^ t - 1) % 256 * 2 ^ s) % 256
theorem mk_bits : ∀ t : Fin 9, ∀ s : Fin 8, t.val + s.val ≤ 8 → mk t s < 256 ∧ ∀ j : Fin 8, (mk t s).testBit j = (decide (s.val ≤ j.val) && decide (j.val < s.val + t.val)) ∧ (255 - mk t s).testBit j = !(decide (s.val ≤ j.val) && decide (j.val < s.val + t.val)) := by decide +kernel
theorem mask_eq {t s : Nat} (ht : t ≤ 8) (hs : s ≤ 7) : shl .u8 (((shl .u8 1 (t : Int)) - 1) % 256) (s : Int) = ((mk t s : Nat) : Int) := by
  have h : ∀ t : Fin 9, ∀ s : Fin 8, shl .u8 (((shl .u8 1 ((t.val : Nat) : Int)) - 1) % 256) ((s.val : Nat) : Int) = ((mk t s : Nat) : Int) := by decide +kernel
  exact h ⟨t, by omega⟩ ⟨s, by omega⟩
def pt (v r s : Nat) : Nat := (v / 2 ^ r % 256 * 2 ^ s) % 256
theorem pt_eq {v r s : Nat} (hr : r ≤ 64) (hs : s ≤ 7) : shl .u8 ((shr .u64 (v : Int) (r : Int)) % 256) (s : Int) = ((pt v r s : Nat) : Int) := by
  unfold shr shl
  rw [Int.toNat_natCast, Int.toNat_natCast, Nat.min_eq_left (show s ≤ IntKind.u8.bits from by show s ≤ 8; omega), Nat.min_eq_left (show r ≤ IntKind.u64.bits from hr), IntKind.wrap_u8']
  unfold pt
  rw [Int.natCast_emod, Int.natCast_mul, Int.natCast_emod, Int.natCast_ediv, Int.natCast_pow, Int.natCast_pow]; rfl
theorem pt_bit {v r s j : Nat} (hj : j < 8) (hs : s ≤ j) : (pt v r s).testBit j = v.testBit (r + (j - s)) := by
  unfold pt
  rw [show (256 : Nat) = 2 ^ 8 from rfl, Nat.testBit_mod_two_pow, Nat.testBit_mul_two_pow, Nat.testBit_mod_two_pow, Nat.testBit_div_two_pow]
  rw [decide_eq_true hj, decide_eq_true (show s ≤ j from hs), decide_eq_true (show j - s < 8 from by omega), Nat.add_comm r]
  simp only [Bool.true_and]
theorem pt_lt (v r s : Nat) : pt v r s < 256 := Nat.mod_lt _ (by decide)
/-- The byte that a step writes. -/
def nb (c v t r s : Nat) : Nat := (c &&& (255 - mk t s)) ||| (pt v r s &&& mk t s)
theorem nb_eq {c v t r s : Nat} (hc : c < 256) (ht : t ≤ 8) (hs : s ≤ 7) (hts : t + s ≤ 8) (hr : r ≤ 64) :
    Go.bits .or .u8 (Go.bits .andNot .u8 (c : Int) (shl .u8 (((shl .u8 1 (t : Int)) - 1) % 256) (s : Int))) (Go.bits .and .u8 (shl .u8 ((shr .u64 (v : Int) (r : Int)) % 256) (s : Int)) (shl .u8 (((shl .u8 1 (t : Int)) - 1) % 256) (s : Int))) = ((nb c v t r s : Nat) : Int) := by
  have hm : mk t s < 256 := (mk_bits ⟨t, by omega⟩ ⟨s, by omega⟩ hts).1
  have h1 : c &&& (255 - mk t s) < 256 := Nat.lt_of_le_of_lt Nat.and_le_left hc
  have h2 : pt v r s &&& mk t s < 256 := Nat.lt_of_le_of_lt Nat.and_le_right hm
  rw [mask_eq ht hs, pt_eq hr hs, u8_andNot_nat _ _ hc hm, u8_and_nat _ _ (pt_lt v r s) hm, u8_or_nat _ _ h1 h2]; rfl
theorem nb_lt {c v t r s : Nat} (hc : c < 256) (ht : t ≤ 8) (hs : s ≤ 7) (hts : t + s ≤ 8) : nb c v t r s < 256 := by
  have hm : mk t s < 256 := (mk_bits ⟨t, by omega⟩ ⟨s, by omega⟩ hts).1
  have h1 : c &&& (255 - mk t s) < 2 ^ 8 := Nat.lt_of_le_of_lt Nat.and_le_left hc
  have h2 : pt v r s &&& mk t s < 2 ^ 8 := Nat.lt_of_le_of_lt Nat.and_le_right hm
  exact Nat.or_lt_two_pow h1 h2
theorem nb_bit {c v t r s j : Nat} (ht : t ≤ 8) (hs : s ≤ 7) (hts : t + s ≤ 8) (hj : j < 8) :
    (nb c v t r s).testBit j = if s ≤ j ∧ j < s + t then v.testBit (r + (j - s)) else c.testBit j := by
  obtain ⟨e1, e2⟩ := (mk_bits ⟨t, by omega⟩ ⟨s, by omega⟩ hts).2 ⟨j, hj⟩
  simp only at e1 e2
  unfold nb
  rw [Nat.testBit_or, Nat.testBit_and, Nat.testBit_and, e1, e2]
  by_cases h1 : s ≤ j
  · rw [pt_bit hj h1]
    by_cases h2 : j < s + t
    · simp [h1, h2]
    · simp [h1, h2]
  · simp [h1]
theorem bitAt_set {l : List Int} {i : Nat} (hi : i < l.length) (c j : Nat) : bitAt (l.set i (c : Int)) j = if j / 8 = i then c.testBit (7 - j % 8) else bitAt l j := by
  unfold bitAt
  rw [List.getD_eq_getElem?_getD, List.getElem?_set]
  by_cases h : j / 8 = i
  · rw [if_pos h.symm, if_pos hi, if_pos h]; rfl
  · rw [if_neg (fun e => h e.symm), if_neg h, ← List.getD_eq_getElem?_getD]
theorem Byt.set {l : List Int} (hl : Byt l) {i c : Nat} (hc : c < 256) : Byt (l.set i (c : Int)) := by
  intro x hx
  rcases List.mem_or_eq_of_mem_set hx with h | h
  · exact hl x h
  · rw [h]; omega
theorem set_idx {a n t j : Nat} (_ht1 : 1 ≤ t) (ht2 : t ≤ 8 - a % 8) (ht3 : t ≤ n) : j / 8 = a / 8 →
    ((8 - a % 8 - t ≤ 7 - j % 8 ∧ 7 - j % 8 < 8 - a % 8 - t + t) ↔ (a ≤ j ∧ j < a + t)) ∧ (a ≤ j → j < a + t → n - t + (7 - j % 8 - (8 - a % 8 - t)) = a + n - 1 - j) := by
  intro h
  refine ⟨⟨fun h1 => ?_, fun h1 => ?_⟩, fun h1 h2 => ?_⟩
  · constructor <;> omega
  · constructor <;> omega
  · omega
theorem steps2 {a n t : Nat} (hn : n ≤ 64) (ht2 : t ≤ 8 - a % 8) (ht1 : 1 ≤ t) : 8 - a % 8 - t ≤ 7 ∧ t + (8 - a % 8 - t) ≤ 8 ∧ n - t ≤ 64 ∧ a % 8 ≤ 8 ∧ t ≤ 8 - a % 8 := by
  refine ⟨?_, ?_, ?_, ?_, ?_⟩ <;> omega
theorem set_l0 {v : Nat} : ∀ (n k a : Nat) (l : List Int), Byt l → l.length ≤ 1000000 → n < k → n ≤ 64 → a + n ≤ 8 * l.length →
    ∃ r, bits_set.l0 k l (a : Int) (n : Int) (v : Int) = some r ∧ r.length = l.length ∧ Byt r ∧ ∀ j, bitAt r j = if a ≤ j ∧ j < a + n then v.testBit (a + n - 1 - j) else bitAt l j := by
  intro n
  induction n using Nat.strongRecOn with
  | ind n ih =>
    intro k a l hl hL hk hm ha
    obtain ⟨k, rfl⟩ : ∃ j, k = j + 1 := ⟨k - 1, by omega⟩
    by_cases hn : n = 0
    · subst hn
      refine ⟨l, ?_, rfl, hl, fun j => ?_⟩
      · rw [bits_set.l0, if_neg (by decide)]
      · rw [if_neg (by omega)]
    · obtain ⟨ht1, ht2, ht3⟩ := tk_bd (a := a) hn
      obtain ⟨o1, o2, o3, o4, o5, e7, o8, _, o10, hn64, o11, o12, o13⟩ := steps (m := 0) hk (by omega) ha hn hL ht1 ht2 ht3
      obtain ⟨p1, p2, p3, p4, p5⟩ := steps2 hn64 ht2 ht1
      have hc0 := hl.at (a / 8)
      have hc : (l.getD (a / 8) 0).toNat < 256 := by omega
      have e4 := w_add (n := a) (t := tk a n) o11
      have e1 := w_div (a := a) o12
      have e5 := w_sub (n := n) ht3 o13
      have e3 := w_sub (n := 8) (t := a % 8) p4 (by decide)
      rw [show ((8 : Nat) : Int) = 8 from rfl] at e3
      have e6 := w_sub (n := 8 - a % 8) (t := tk a n) p5 (by clear e1 e3 e4 e5; omega)
      have e9 := tk_eq a n hn64
      have hl' : Byt (l.set (a / 8) ((nb (l.getD (a / 8) 0).toNat v (tk a n) (n - tk a n) (8 - a % 8 - tk a n) : Nat) : Int)) := hl.set (nb_lt hc o10 p1 p2)
      obtain ⟨r, hr, hrl, hrb, hrj⟩ := ih (n - tk a n) o2 k (a + tk a n) _ hl' (by rw [List.length_set]; exact hL) o3 (by clear e1 e3 e4 e5 e6 e9; omega) (by rw [List.length_set]; exact o5)
      refine ⟨r, ?_, by rw [hrl, List.length_set], hrb, fun j => ?_⟩
      · rw [bits_set.l0, e9, e1, t_mod a, e3, e6, e5, if_pos (pos_nat hn), if_pos (nat_nn _), if_pos (nat_nn _), if_pos (nat_nn _), if_pos (nat_nn _), if_pos (nat_lt o8), e4, hl.rdN, nb_eq hc o10 p1 p2 p3, Int.toNat_natCast]
        exact hr
      · clear e1 e3 e4 e5 e6 e9
        rw [hrj, bitAt_set o8]
        by_cases h1 : a + tk a n ≤ j ∧ j < a + tk a n + (n - tk a n)
        · rw [if_pos h1, if_pos (by omega)]
          congr 1; omega
        · rw [if_neg h1]
          by_cases h2 : j / 8 = a / 8
          · obtain ⟨q1, q2⟩ := set_idx (j := j) ht1 ht2 ht3 h2
            rw [if_pos h2, nb_bit o10 p1 p2 (by omega)]
            by_cases h3 : a ≤ j ∧ j < a + tk a n
            · rw [if_pos (q1.mpr h3), if_pos (by omega), q2 h3.1 h3.2]
            · rw [if_neg (fun h => h3 (q1.mp h)), if_neg (by omega)]
              unfold bitAt; rw [h2]
          · rw [if_neg h2, if_neg (by omega)]
theorem set_f {v : Nat} {l : List Int} (hl : Byt l) (hL : l.length ≤ 1000000) {k a n : Nat} (hk : 64 < k) (hn : n ≤ 64) (ha : a + n ≤ 8 * l.length) :
    ∃ r, bits_set.f k l (a : Int) (n : Int) (v : Int) = some r ∧ r.length = l.length ∧ Byt r ∧ ∀ j, bitAt r j = if a ≤ j ∧ j < a + n then v.testBit (a + n - 1 - j) else bitAt l j :=
  set_l0 n k a l hl hL (by omega) hn ha

/-- Two byte lists with the same bits are one. -/
theorem same_bits {l r : List Int} (hl : Byt l) (hr : Byt r) (hlen : l.length = r.length) (h : ∀ j, j < 8 * l.length → bitAt l j = bitAt r j) : l = r := by
  apply List.ext_getElem hlen
  intro i h1 h2
  have a1 := hl.mem h1
  have a2 := hr.mem h2
  have e : (l[i]).toNat = (r[i]).toNat := by
    apply Nat.eq_of_testBit_eq; intro t
    by_cases ht : t < 8
    · have := h (8 * i + (7 - t)) (by omega)
      unfold bitAt at this
      rw [show (8 * i + (7 - t)) / 8 = i from by omega, show 7 - (8 * i + (7 - t)) % 8 = t from by omega] at this
      rw [List.getD_eq_getElem?_getD, List.getD_eq_getElem?_getD, List.getElem?_eq_getElem h1, List.getElem?_eq_getElem h2] at this
      exact this
    · have : 2 ^ 8 ≤ 2 ^ t := Nat.pow_le_pow_right (by decide) (by omega)
      rw [Nat.testBit_lt_two_pow (by omega), Nat.testBit_lt_two_pow (by omega)]
  omega
/-- n bits from a on, as a list of numbers. -/
def seg (f : Nat → Bool) (a : Nat) : Nat → List Int
  | 0 => []
  | n + 1 => (((f a).toNat : Nat) : Int) :: seg f (a + 1) n
theorem seg_len (f : Nat → Bool) : ∀ n a, (seg f a n).length = n
  | 0, _ => rfl
  | n + 1, a => by rw [seg, List.length_cons, seg_len f n]
theorem seg_get (f : Nat → Bool) : ∀ n a j, (seg f a n)[j]? = if j < n then some (((f (a + j)).toNat : Nat) : Int) else none
  | 0, _, j => by simp [seg]
  | n + 1, a, 0 => by simp [seg]
  | n + 1, a, j + 1 => by
    rw [seg, List.getElem?_cons_succ, seg_get f n (a + 1) j, show a + 1 + j = a + (j + 1) from by omega]
    by_cases h : j < n
    · rw [if_pos h, if_pos (by omega)]
    · rw [if_neg h, if_neg (by omega)]
theorem loop_list (s : ByteArray) : ∀ (d i : Nat) (r : List UInt8), i + d = s.size → ByteArray.toList.loop s i r = r.reverse ++ s.data.toList.drop i := by
  intro d
  induction d with
  | zero =>
    intro i r hi
    unfold ByteArray.toList.loop
    have hs : s.data.toList.length = s.size := rfl
    rw [if_neg (by omega), List.drop_eq_nil_of_le (by omega), List.append_nil]
  | succ d ih =>
    intro i r hi
    unfold ByteArray.toList.loop
    have hs : s.data.toList.length = s.size := rfl
    have hi' : i < s.data.toList.length := by omega
    have hi2 : i < s.data.size := hi'
    rw [if_pos (by omega), ih (i + 1) _ (by omega), List.drop_eq_getElem_cons hi', List.reverse_cons, List.append_assoc]
    have : s.get! i = s.data.toList[i] := by
      show s.data[i]! = _
      rw [getElem!_pos s.data i hi2]; rfl
    rw [this]; rfl
theorem list_data (s : ByteArray) : s.toList = s.data.toList := by
  unfold ByteArray.toList
  rw [loop_list s s.size 0 [] (Nat.zero_add _)]; rfl
theorem str_inj {x y : List Int} (hx : Byt x) (hy : Byt y) (h : (strOfNums x).toList = (strOfNums y).toList) : x = y := by
  rw [list_data, list_data, strOfNums_data, strOfNums_data] at h
  have hlen : x.length = y.length := by
    have := congrArg List.length h
    rwa [List.length_map, List.length_map] at this
  apply List.ext_getElem hlen
  intro i h1 h2
  have e : (x.map fun n => UInt8.ofNat n.toNat)[i]? = (y.map fun n => UInt8.ofNat n.toNat)[i]? := by rw [h]
  rw [List.getElem?_map, List.getElem?_map, List.getElem?_eq_getElem h1, List.getElem?_eq_getElem h2] at e
  have a1 := hx.mem h1
  have a2 := hy.mem h2
  simp only [Option.map_some, Option.some.injEq] at e
  have e2 := congrArg UInt8.toNat e
  rw [UInt8.toNat_ofNat', UInt8.toNat_ofNat'] at e2
  omega

def wn (ws : List Int) (i : Nat) : Nat := (ws.getD i 0).toNat
/-- Where the field i begins. -/
def pos (ws : List Int) : Nat → Nat
  | 0 => 0
  | i + 1 => pos ws i + wn ws i
theorem pos_mono (ws : List Int) {i : Nat} : ∀ {j}, i ≤ j → pos ws i ≤ pos ws j
  | 0, h => by rw [show i = 0 from by omega]; exact Nat.le_refl _
  | j + 1, h => by
    by_cases e : i = j + 1
    · rw [e]; exact Nat.le_refl _
    · have := pos_mono ws (i := i) (j := j) (by omega)
      rw [pos]; omega
theorem pos_le {ws : List Int} {n : Nat} (h : ∀ i, i < n → wn ws i ≤ 64) : ∀ m, m ≤ n → pos ws m ≤ 64 * m
  | 0, _ => by simp [pos]
  | m + 1, hm => by
    have h1 := pos_le h m (by omega)
    have h2 := h m (by omega)
    rw [pos]; omega
theorem pos_find {ws : List Int} {j : Nat} : ∀ n, j < pos ws n → ∃ i t, i < n ∧ t < wn ws i ∧ j = pos ws i + t
  | 0, h => by simp [pos] at h
  | n + 1, h => by
    by_cases h1 : j < pos ws n
    · obtain ⟨i, t, a, b, c⟩ := pos_find n h1
      exact ⟨i, t, by omega, b, c⟩
    · rw [pos] at h
      exact ⟨n, j - pos ws n, by omega, by omega, by omega⟩
def Fit (ws vs : List Int) (i : Nat) : Prop := 0 ≤ ws.getD i 0 ∧ ws.getD i 0 ≤ 64 ∧ wn vs i < 2 ^ wn ws i
/-- The list r is the values vs packed into the widths ws. -/
structure Packed (ws vs r : List Int) : Prop where
  len : r.length = (pos ws ws.length + 7) / 8
  byt : Byt r
  bit : ∀ i t, i < ws.length → t < wn ws i → bitAt r (pos ws i + t) = (wn vs i).testBit (wn ws i - 1 - t)
  rest : ∀ j, pos ws ws.length ≤ j → bitAt r j = false
theorem Packed.one {ws vs r s : List Int} (h : Packed ws vs r) (g : Packed ws vs s) : r = s := by
  apply same_bits h.byt g.byt (by rw [h.len, g.len])
  intro j _
  by_cases hj : j < pos ws ws.length
  · obtain ⟨i, t, a, b, c⟩ := pos_find ws.length hj
    rw [c, h.bit i t a b, g.bit i t a b]
  · rw [h.rest j (by omega), g.rest j (by omega)]
theorem rd_nat (l : List Int) (i : Nat) : rd l (i : Int) = l.getD i 0 := by unfold rd; rw [Int.toNat_natCast]
def V8 (vs : List Int) : Prop := ∀ i, 0 ≤ vs.getD i 0 ∧ vs.getD i 0 < 18446744073709551616
theorem V8.nat {vs : List Int} (h : V8 vs) (i : Nat) : vs.getD i 0 = ((wn vs i : Nat) : Int) ∧ wn vs i < 18446744073709551616 := by
  have := h i
  unfold wn; omega
theorem Fit.nat {ws vs : List Int} {i : Nat} (h : Fit ws vs i) : ws.getD i 0 = ((wn ws i : Nat) : Int) ∧ wn ws i ≤ 64 := by
  obtain ⟨h1, h2, _⟩ := h
  unfold wn; omega
theorem bitlen_iff {v w : Nat} (hv : v < 18446744073709551616) (hw : w ≤ 64) : Lib.bitLen v ≤ w ↔ v < 2 ^ w := by
  constructor
  · intro h
    by_cases h0 : v = 0
    · rw [h0]; exact Nat.pow_pos (by decide)
    · have hb := Lib.bitLenAux_bounds 64 v hv h0
      change 1 ≤ Lib.bitLen v ∧ 2 ^ (Lib.bitLen v - 1) ≤ v ∧ v < 2 ^ Lib.bitLen v at hb
      exact Nat.lt_of_lt_of_le hb.2.2 (Nat.pow_le_pow_right (by decide) h)
  · intro h; exact Lib.bitLen_le v w hw h
theorem len64_f {k v : Nat} (hv : v < 18446744073709551616) : bits_Len64.f k (v : Int) = some ((Lib.bitLen v : Nat) : Int) := by
  unfold bits_Len64.f
  rw [if_pos (by omega), Int.toNat_natCast]

/-! The code's Pack. -/
theorem pk0_ok {ws vs : List Int} (hv : V8 vs) (hl : ws.length = vs.length) (hL : ws.length ≤ 60) {k i : Nat} (hi : i < ws.length) (hf : Fit ws vs i) :
    bits_Pack.l0 (k + 1) ws vs ws (ws.length : Int) (i : Int) = bits_Pack.l0 k ws vs ws (ws.length : Int) ((i + 1 : Nat) : Int) := by
  obtain ⟨f1, f2⟩ := hf.nat
  obtain ⟨v1, v2⟩ := hv.nat i
  have hf3 := (bitlen_iff v2 f2).mpr hf.2.2
  have o1 : i < vs.length := by omega
  have o2 : i < 100000000 := by omega
  rw [bits_Pack.l0, if_pos (nat_lt hi), if_pos (nat_nn _), if_pos (nat_lt hi), rd_nat, rd_nat, f1, v1, if_neg (by omega), if_neg (by omega), if_pos (nat_lt o1), len64_f v2, Option.bind_some, if_neg (by omega), w_succ o2]
theorem pk0_all {ws vs : List Int} (hv : V8 vs) (hl : ws.length = vs.length) (hL : ws.length ≤ 60) : ∀ (d k i : Nat), d < k → i + d = ws.length → (∀ j, i ≤ j → j < ws.length → Fit ws vs j) →
    bits_Pack.l0 k ws vs ws (ws.length : Int) (i : Int) = bits_Pack.l0 (k - d) ws vs ws (ws.length : Int) (ws.length : Int) := by
  intro d
  induction d with
  | zero => intro k i _ hi _; rw [show i = ws.length from hi]; rfl
  | succ d ih =>
    intro k i hk hi hf
    obtain ⟨k, rfl⟩ : ∃ j, k = j + 1 := ⟨k - 1, by omega⟩
    rw [pk0_ok hv hl hL (by omega) (hf i (Nat.le_refl _) (by omega)), ih k (i + 1) (by omega) (by omega) (fun j h1 h2 => hf j (by omega) h2), show k + 1 - (d + 1) = k - d from by omega]
theorem whole_l0 {ws : List Int} (hL : ws.length ≤ 60) (hw : ∀ i, i < ws.length → 0 ≤ ws.getD i 0) (hT : pos ws ws.length ≤ 1000000) : ∀ (d k i : Nat), d < k → i + d = ws.length →
    bits_whole.l0 k ((pos ws i : Nat) : Int) ws (ws.length : Int) (i : Int) = some (((pos ws ws.length + 7) / 8 : Nat) : Int) := by
  intro d
  induction d with
  | zero =>
    intro k i hk hi
    obtain ⟨k, rfl⟩ : ∃ j, k = j + 1 := ⟨k - 1, by omega⟩
    have hi : i = ws.length := hi
    subst hi
    rw [bits_whole.l0, if_neg (int_irrefl _)]
    generalize pos ws ws.length = t at hT
    rw [w64 (x := (t : Int) + 8) (by omega) (by omega), w64 (x := (t : Int) + 8 - 1) (by omega) (by omega), show (t : Int) + 8 - 1 = ((t + 7 : Nat) : Int) from by omega, w_div (by omega)]
  | succ d ih =>
    intro k i hk hi
    obtain ⟨k, rfl⟩ : ∃ j, k = j + 1 := ⟨k - 1, by omega⟩
    have o1 : i < ws.length := by omega
    have o2 : i < 100000000 := by omega
    have o3 : d < k := by omega
    have o4 : i + 1 + d = ws.length := by omega
    have h1 := hw i o1
    have h2 : ws.getD i 0 = ((wn ws i : Nat) : Int) := by unfold wn; omega
    have h3 : pos ws (i + 1) ≤ pos ws ws.length := pos_mono ws (by omega)
    rw [pos] at h3
    have o5 : pos ws i + wn ws i ≤ 100000000 := by omega
    rw [bits_whole.l0, if_pos (nat_lt o1), if_pos (nat_nn _), if_pos (nat_lt o1), rd_nat, h2, w_add o5, w_succ o2]
    exact ih k (i + 1) o3 o4
theorem whole_f {ws : List Int} (hL : ws.length ≤ 60) (hw : ∀ i, i < ws.length → 0 ≤ ws.getD i 0) (hT : pos ws ws.length ≤ 1000000) {k : Nat} (hk : 60 < k) : bits_whole.f k ws = some (((pos ws ws.length + 7) / 8 : Nat) : Int) := by
  unfold bits_whole.f
  exact whole_l0 hL hw hT ws.length k 0 (by omega) (Nat.zero_add _)
theorem pk1 {ws vs : List Int} (hv : V8 vs) (hl : ws.length = vs.length) (hL : ws.length ≤ 60) (hf : ∀ j, j < ws.length → Fit ws vs j) {B : Nat} (hB : B ≤ 1000) (hT : pos ws ws.length ≤ 8 * B) :
    ∀ (d k i : Nat) (x : List Int), d + 66 < k → i + d = ws.length → Byt x → x.length = B →
    ∃ r, bits_Pack.l1 k vs x ((pos ws i : Nat) : Int) ws (ws.length : Int) (i : Int) = some (r, true) ∧ r.length = B ∧ Byt r ∧
      (∀ i' t, i ≤ i' → i' < ws.length → t < wn ws i' → bitAt r (pos ws i' + t) = (wn vs i').testBit (wn ws i' - 1 - t)) ∧
      (∀ j, j < pos ws i ∨ pos ws ws.length ≤ j → bitAt r j = bitAt x j) := by
  intro d
  induction d with
  | zero =>
    intro k i x hk hi hx hxB
    obtain ⟨k, rfl⟩ : ∃ j, k = j + 1 := ⟨k - 1, by omega⟩
    have hi : i = ws.length := hi
    subst hi
    refine ⟨x, ?_, hxB, hx, fun i' t a b _ => by omega, fun j _ => rfl⟩
    rw [bits_Pack.l1, if_neg (int_irrefl _)]
  | succ d ih =>
    intro k i x hk hi hx hxB
    obtain ⟨k, rfl⟩ : ∃ j, k = j + 1 := ⟨k - 1, by omega⟩
    have o1 : i < ws.length := by omega
    have o0 : i < vs.length := by omega
    have o2 : i < 100000000 := by omega
    have o3 : d + 66 < k := by omega
    have o4 : i + 1 + d = ws.length := by omega
    obtain ⟨f1, f2⟩ := (hf i o1).nat
    obtain ⟨v1, v2⟩ := hv.nat i
    have h3 : pos ws (i + 1) ≤ pos ws ws.length := pos_mono ws (by omega)
    have h4 : pos ws (i + 1) = pos ws i + wn ws i := rfl
    rw [h4] at h3
    have o5 : pos ws i + wn ws i ≤ 100000000 := by omega
    obtain ⟨y, y1, y2, y3, y4⟩ := set_f (v := wn vs i) hx (by omega) (k := k) (by omega) f2 (show pos ws i + wn ws i ≤ 8 * x.length from by omega)
    obtain ⟨r, r1, r2, r3, r4, r5⟩ := ih k (i + 1) y o3 o4 y3 (by omega)
    refine ⟨r, ?_, r2, r3, fun i' t a b c => ?_, fun j hj => ?_⟩
    · rw [bits_Pack.l1, if_pos (nat_lt o1), if_pos (nat_nn _), if_pos (nat_lt o1), if_pos (nat_lt o0), rd_nat, rd_nat, f1, v1, y1, Option.bind_some, w_add o5, w_succ o2]
      exact r1
    · by_cases e : i' = i
      · subst e
        rw [r5 _ (Or.inl (by rw [h4]; omega)), y4, if_pos (by omega)]
        congr 1; omega
      · exact r4 i' t (by omega) b c
    · rw [r5 j (by rw [h4]; omega), y4, if_neg (by omega)]
theorem zero_byt (n : Nat) : Byt (List.replicate n 0) := fun x hx => by
  have := (List.mem_replicate.mp hx).2
  rw [this]; decide
theorem zero_bit (n j : Nat) : bitAt (List.replicate n 0) j = false := by
  have : (List.replicate n (0 : Int)).getD (j / 8) 0 = 0 := by
    rw [List.getD_eq_getElem?_getD, List.getElem?_replicate]
    split <;> rfl
  unfold bitAt; rw [this]; simp
theorem pack_ok {ws vs : List Int} (hv : V8 vs) (hl : ws.length = vs.length) (hL : ws.length ≤ 60) (hf : ∀ j, j < ws.length → Fit ws vs j) {k : Nat} (hk : 400 < k) :
    ∃ r, bits_Pack.f k ws vs = some (r, true) ∧ Packed ws vs r := by
  have hT : pos ws ws.length ≤ 64 * ws.length := pos_le (fun i hi => (hf i hi).nat.2) ws.length (Nat.le_refl _)
  obtain ⟨r, r1, r2, r3, r4, r5⟩ := pk1 hv hl hL hf (B := (pos ws ws.length + 7) / 8) (by omega) (by omega) ws.length (k - ws.length - 1) 0 (List.replicate ((pos ws ws.length + 7) / 8) 0) (by omega) (Nat.zero_add _) (zero_byt _) List.length_replicate
  refine ⟨r, ?_, ⟨r2, r3, fun i t a b => r4 i t (Nat.zero_le _) a b, fun j hj => by rw [r5 j (Or.inr hj), zero_bit]⟩⟩
  unfold bits_Pack.f
  rw [if_pos (by omega)]
  have h0 := pk0_all hv hl hL ws.length k 0 (by omega) (Nat.zero_add _) (fun j _ h => hf j h)
  have h0 : bits_Pack.l0 k ws vs ws (ws.length : Int) 0 = _ := h0
  rw [h0]
  obtain ⟨q, hq⟩ : ∃ q, k - ws.length = q + 1 := ⟨k - ws.length - 1, by omega⟩
  rw [hq] at r1 ⊢
  rw [bits_Pack.l0, if_neg (int_irrefl _), whole_f hL (fun i hi => (hf i hi).1) (by omega) (by omega), Option.bind_some, if_pos (nat_nn _), Int.toNat_natCast, if_pos (by omega)]
  exact r1
theorem field {b : List Int} {p n : Nat} (h : p + n ≤ 8 * b.length) : (((seg (bitAt b) 0 (8 * b.length)).take (p + n)).drop p).length = n ∧
    ∀ j, j < n → (((seg (bitAt b) 0 (8 * b.length)).take (p + n)).drop p).getD j 0 = (((bitAt b (p + j)).toNat : Nat) : Int) := by
  constructor
  · rw [List.length_drop, List.length_take, seg_len]; omega
  · intro j hj
    rw [List.getD_eq_getElem?_getD, List.getElem?_drop, List.getElem?_take, if_pos (by omega), seg_get, if_pos (by omega), Nat.zero_add]; rfl
end Go.Proofs.Ytknjhmclnnjbnaa.Pure
