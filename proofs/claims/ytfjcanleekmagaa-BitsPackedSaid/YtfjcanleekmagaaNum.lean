/- The bits of a byte list, the numbers that stand in them, and what the code's Get and set and the plain reader's Bit and Get come to. No condition beyond the ranges that stand in each lemma. -/
import Derived.Test.YtfjcanleekmagaaFn9
import Derived.Laws.BitsAllLaws
import Derived.Laws.Bits64
import Derived.Lib.ItoaNum
namespace Go.Proofs.Ytfjcanleekmagaa.Pure
open Go.RowKit Go.Proofs.Ytfjcanleekmagaa.Fn Go.Proofs.YtfjcanleekmagaaW.PrintWords Go.Proofs.YtfjcanleekmagaaW.PrintLast Go.Proofs.YtfjcanleekmagaaW.PrintMore

theorem wf_i64 {x : Int} (h : (Lit.int .i64 x).wf = true) : -9223372036854775808 ≤ x ∧ x < 9223372036854775808 := by
  simp [Lit.wf, IntKind.min, IntKind.max, IntKind.bits, IntKind.signed] at h
  omega
theorem wf_u64 {x : Int} (h : (Lit.int .u64 x).wf = true) : 0 ≤ x ∧ x < 18446744073709551616 := by
  simp [Lit.wf, IntKind.min, IntKind.max, IntKind.bits, IntKind.signed] at h
  omega
theorem wf_u8 {x : Int} (h : (Lit.int .u8 x).wf = true) : 0 ≤ x ∧ x < 256 := by
  simp [Lit.wf, IntKind.min, IntKind.max, IntKind.bits, IntKind.signed] at h
  omega
theorem w64 {x : Int} (h0 : -9223372036854775808 ≤ x) (h1 : x < 9223372036854775808) : wrap64 x = x := by unfold wrap64; omega
theorem u64_eq (x : Int) : IntKind.u64.wrap x = x % 18446744073709551616 := IntKind.wrap_u64 x
theorem tmod_nat (n m : Nat) : ((n : Int)).tmod (m : Int) = ((n % m : Nat) : Int) := by rw [Int.tmod_eq_emod_of_nonneg (by omega)]; omega
theorem tdiv_nat (n m : Nat) : ((n : Int)).tdiv (m : Int) = ((n / m : Nat) : Int) := by rw [Int.tdiv_eq_ediv_of_nonneg (by omega)]; omega

/-- A list of bytes. -/
def Byt (l : List Int) : Prop := ∀ x ∈ l, 0 ≤ x ∧ x < 256
theorem Byt.at {l : List Int} (h : Byt l) (i : Nat) : 0 ≤ l.getD i 0 ∧ l.getD i 0 < 256 := by
  by_cases hi : i < l.length
  · rw [List.getD_eq_getElem?_getD, List.getElem?_eq_getElem hi]
    exact h _ (List.getElem_mem hi)
  · rw [List.getD_eq_getElem?_getD, List.getElem?_eq_none (by omega)]
    decide
/-- The bit with the number i, the highest of the first byte first. -/
def bitAt (l : List Int) (i : Nat) : Bool := (l.getD (i / 8) 0).toNat.testBit (7 - i % 8)
/-- The number that n bits from a on write. -/
def num (f : Nat → Bool) (a : Nat) : Nat → Nat
  | 0 => 0
  | n + 1 => 2 * num f a n + (f (a + n)).toNat
theorem num_lt (f : Nat → Bool) (a : Nat) : ∀ n, num f a n < 2 ^ n
  | 0 => by simp [num]
  | n + 1 => by
    have := num_lt f a n
    have hb : (f (a + n)).toNat ≤ 1 := by cases f (a + n) <;> decide
    rw [num, Nat.pow_succ]; omega
theorem num_lt64 (f : Nat → Bool) (a : Nat) {n : Nat} (h : n ≤ 64) : num f a n < 18446744073709551616 :=
  Nat.lt_of_lt_of_le (num_lt f a n) (Nat.pow_le_pow_right (by decide) h)
theorem num_add (f : Nat → Bool) (a m : Nat) : ∀ n, num f a (m + n) = num f a m * 2 ^ n + num f (a + m) n
  | 0 => by simp [num]
  | n + 1 => by
    rw [← Nat.add_assoc, num, num_add f a m n, num, Nat.pow_succ, ← Nat.mul_assoc, Nat.add_assoc a m n]
    omega
theorem num_bit (f : Nat → Bool) (a : Nat) : ∀ n t, (num f a n).testBit t = (decide (t < n) && f (a + (n - 1 - t)))
  | 0, t => by simp [num]
  | n + 1, 0 => by
    rw [num, Nat.testBit_zero]
    cases h : f (a + n) <;> simp [h] <;> omega
  | n + 1, t + 1 => by
    have hb : (f (a + n)).toNat ≤ 1 := by cases f (a + n) <;> decide
    rw [num, Nat.testBit_succ, show (2 * num f a n + (f (a + n)).toNat) / 2 = num f a n from by omega, num_bit f a n t]
    rw [show n + 1 - 1 - (t + 1) = n - 1 - t from by omega]
    simp
theorem num_of {f : Nat → Bool} {a n v : Nat} (h : ∀ t, v.testBit t = (decide (t < n) && f (a + (n - 1 - t)))) : v = num f a n :=
  Nat.eq_of_testBit_eq fun t => by rw [h, num_bit]
theorem num_congr {f g : Nat → Bool} {a b n : Nat} (h : ∀ j, j < n → f (a + j) = g (b + j)) : num f a n = num g b n := by
  apply Nat.eq_of_testBit_eq; intro t
  rw [num_bit, num_bit]
  by_cases ht : t < n
  · rw [h _ (by omega)]
  · simp [ht]

/-! What Get reads. -/
def tk (a n : Nat) : Nat := min (8 - a % 8) n
theorem tk_eq (a n : Nat) (_hn : n ≤ 64) : mn (wrap64 (8 - (Int.tmod (a : Int) 8))) (n : Int) = ((tk a n : Nat) : Int) := by
  rw [show (8 : Int) = ((8 : Nat) : Int) from rfl, tmod_nat, w64 (by omega) (by omega)]
  unfold mn tk; split <;> omega
theorem part_eq {f : Nat → Bool} {c a t : Nat} (h1 : 1 ≤ t) (h2 : t ≤ 8 - a % 8) (hf : ∀ j, j < 8 → f (8 * (a / 8) + j) = c.testBit (7 - j)) :
    IntKind.u64.wrap (shr .u8 (shl .u8 (c : Int) ((a % 8 : Nat) : Int)) ((8 - t : Nat) : Int)) = ((num f a t : Nat) : Int) := by
  unfold shr shl
  rw [Int.toNat_natCast, Int.toNat_natCast, Nat.min_eq_left (show a % 8 ≤ IntKind.u8.bits from by show a % 8 ≤ 8; omega), Nat.min_eq_left (show 8 - t ≤ IntKind.u8.bits from by show 8 - t ≤ 8; omega), IntKind.wrap_u8']
  have e : (((c : Int) * 2 ^ (a % 8)) % 256 / 2 ^ (8 - t)) = (((c * 2 ^ (a % 8)) % 2 ^ 8 / 2 ^ (8 - t) : Nat) : Int) := by
    rw [Int.natCast_ediv, Int.natCast_emod, Int.natCast_mul, Int.natCast_pow, Int.natCast_pow]; rfl
  rw [e, u64_eq]
  have hN : (c * 2 ^ (a % 8)) % 2 ^ 8 / 2 ^ (8 - t) = num f a t := by
    apply num_of; intro s
    rw [Nat.testBit_div_two_pow, Nat.testBit_mod_two_pow, Nat.testBit_mul_two_pow]
    by_cases hs : s < t
    · have e1 : a + (t - 1 - s) = 8 * (a / 8) + (a % 8 + (t - 1 - s)) := by omega
      rw [e1, hf _ (by omega)]
      rw [show 7 - (a % 8 + (t - 1 - s)) = s + (8 - t) - a % 8 from by omega]
      rw [decide_eq_true hs, decide_eq_true (show s + (8 - t) < 8 from by omega), decide_eq_true (show a % 8 ≤ s + (8 - t) from by omega)]
      simp only [Bool.true_and]
    · rw [decide_eq_false hs, decide_eq_false (show ¬ s + (8 - t) < 8 from by omega)]; rfl
  rw [hN]
  have := num_lt64 f a (n := t) (by omega)
  omega
theorem join64 {x p m t : Nat} (hx : x < 2 ^ m) (hp : p < 2 ^ t) (hm : m + t ≤ 64) : Go.bits .or .u64 (shl .u64 (x : Int) (t : Int)) (p : Int) = ((x * 2 ^ t + p : Nat) : Int) := by
  have h1 : x * 2 ^ t + p < 18446744073709551616 := by
    have e : x * 2 ^ t + p < 2 ^ (m + t) := by
      rw [Nat.pow_add]
      have := Nat.mul_le_mul_right (2 ^ t) (show x + 1 ≤ 2 ^ m from hx)
      rw [Nat.add_mul] at this; omega
    exact Nat.lt_of_lt_of_le e (Nat.pow_le_pow_right (by decide) hm)
  unfold shl
  rw [Int.toNat_natCast, Nat.min_eq_left (show t ≤ IntKind.u64.bits from by show t ≤ 64; omega), u64_eq]
  have e : ((x : Int) * 2 ^ t) % 18446744073709551616 = ((x * 2 ^ t : Nat) : Int) := by
    have e0 : (x : Int) * 2 ^ t = ((x * 2 ^ t : Nat) : Int) := by rw [Int.natCast_mul, Int.natCast_pow]; rfl
    rw [e0]; omega
  rw [e, u64_or_nat _ _ (by omega) (by omega), nat_join t _ _ (Nat.mul_mod_left _ _) hp]
theorem steps {a n L t m k : Nat} (hk : n < k + 1) (hm : m + n ≤ 64) (ha : a + n ≤ 8 * L) (_hn : ¬ n = 0) (hL : L ≤ 1000000) (ht1 : 1 ≤ t) (ht2 : t ≤ 8 - a % 8) (ht3 : t ≤ n) :
    m + t ≤ 64 ∧ n - t < n ∧ n - t < k ∧ m + t + (n - t) ≤ 64 ∧ a + t + (n - t) ≤ 8 * L ∧ n = t + (n - t) ∧ a / 8 < L ∧ 8 - a % 8 - t ≤ 7 ∧ t ≤ 8 ∧ n ≤ 64 ∧ a + t ≤ 100000000 ∧ a ≤ 100000000 ∧ n ≤ 1000 := by
  refine ⟨?_, ?_, ?_, ?_, ?_, ?_, ?_, ?_, ?_, ?_, ?_, ?_, ?_⟩ <;> omega
theorem w_sub {n t : Nat} (h : t ≤ n) (h2 : n ≤ 1000) : wrap64 ((n : Int) - (t : Int)) = ((n - t : Nat) : Int) := by
  rw [w64 (by omega) (by omega)]; omega
theorem w_add {n t : Nat} (h2 : n + t ≤ 100000000) : wrap64 ((n : Int) + (t : Int)) = ((n + t : Nat) : Int) := by
  rw [w64 (by omega) (by omega)]; omega
theorem pos_nat {n : Nat} (h : n ≠ 0) : (n : Int) > 0 := by omega
theorem nat_lt {a b : Nat} (h : a < b) : (a : Int) < (b : Int) := by omega
theorem nat_nn (a : Nat) : (0 : Int) ≤ (a : Int) := by omega
theorem w_div {a : Nat} (h : a ≤ 100000000) : wrap64 (Int.tdiv (a : Int) 8) = ((a / 8 : Nat) : Int) := by
  rw [show (8 : Int) = ((8 : Nat) : Int) from rfl, tdiv_nat, w64 (by omega) (by omega)]
theorem t_mod (a : Nat) : Int.tmod (a : Int) 8 = ((a % 8 : Nat) : Int) := tmod_nat a 8
theorem tk_bd {a n : Nat} (hn : ¬ n = 0) : 1 ≤ tk a n ∧ tk a n ≤ 8 - a % 8 ∧ tk a n ≤ n := by unfold tk; omega
theorem Byt.rdN {l : List Int} (h : Byt l) (i : Nat) : rd l (i : Int) = (((l.getD i 0).toNat : Nat) : Int) := by
  have := h.at i
  unfold rd; rw [Int.toNat_natCast]; omega
theorem bitAt_in {l : List Int} {a j : Nat} (hj : j < 8) : bitAt l (8 * (a / 8) + j) = (l.getD (a / 8) 0).toNat.testBit (7 - j) := by
  unfold bitAt
  rw [show (8 * (a / 8) + j) / 8 = a / 8 from by omega, show (8 * (a / 8) + j) % 8 = j from by omega]
theorem grow {x p m t : Nat} (hx : x < 2 ^ m) (hp : p < 2 ^ t) : x * 2 ^ t + p < 2 ^ (m + t) := by
  rw [Nat.pow_add]
  have := Nat.mul_le_mul_right (2 ^ t) (show x + 1 ≤ 2 ^ m from hx)
  rw [Nat.add_mul] at this; omega
theorem get_l0 {l : List Int} (hl : Byt l) (hL : l.length ≤ 1000000) : ∀ (n k a m x : Nat), n < k → m + n ≤ 64 → a + n ≤ 8 * l.length → x < 2 ^ m →
    bits_Get.l0 k l (a : Int) (n : Int) (x : Int) = some (((x * 2 ^ n + num (bitAt l) a n : Nat) : Int), true) := by
  intro n
  induction n using Nat.strongRecOn with
  | ind n ih =>
    intro k a m x hk hm ha
    obtain ⟨k, rfl⟩ : ∃ j, k = j + 1 := ⟨k - 1, by omega⟩
    by_cases hn : n = 0
    · subst hn
      intro _
      rw [bits_Get.l0, if_neg (by decide)]
      simp [num]
    · obtain ⟨ht1, ht2, ht3⟩ := tk_bd (a := a) hn
      obtain ⟨o1, o2, o3, o4, o5, e7, o8, _, o10, hn64, o11, o12, o13⟩ := steps hk hm ha hn hL ht1 ht2 ht3
      have e4 := w_add (n := a) (t := tk a n) o11
      have e1 := w_div (a := a) o12
      have e5 := w_sub (n := n) ht3 o13
      have e3 := w_sub (n := 8) (t := tk a n) o10 (by decide)
      rw [show ((8 : Nat) : Int) = 8 from rfl] at e3
      have e8 := part_eq (f := bitAt l) (c := (l.getD (a / 8) 0).toNat) (a := a) (t := tk a n) ht1 ht2 (fun j hj => bitAt_in hj)
      have e9 := tk_eq a n hn64
      intro hx
      rw [bits_Get.l0, e9, e1, e3, t_mod a, if_pos (pos_nat hn), if_pos (nat_nn _), if_pos (nat_lt o8), if_pos (nat_nn _), if_pos (nat_nn _), if_pos (nat_nn _), e4, e5, hl.rdN, e8]
      have hp := num_lt (bitAt l) a (tk a n)
      rw [join64 hx hp o1]
      have hxx := grow hx hp
      rw [ih (n - tk a n) o2 k (a + tk a n) (m + tk a n) _ o3 o4 o5 hxx]
      have e8 := num_add (bitAt l) a (tk a n) (n - tk a n)
      rw [← e7] at e8
      have e9 : (2 : Nat) ^ n = 2 ^ tk a n * 2 ^ (n - tk a n) := by rw [← Nat.pow_add, ← e7]
      rw [e8, e9, Nat.add_mul, ← Nat.mul_assoc, Nat.add_assoc]
def Ok (l : List Int) (a n : Int) : Prop := 0 ≤ n ∧ n ≤ 64 ∧ 0 ≤ a ∧ a + n ≤ 8 * (l.length : Int)
instance (l : List Int) (a n : Int) : Decidable (Ok l a n) := by unfold Ok; infer_instance
theorem within_f {l : List Int} (hL : l.length ≤ 1000000) (a n : Int) : bits_within.f l a n = some (decide (Ok l a n)) := by
  have hok : Ok l a n ↔ (0 ≤ n ∧ n ≤ 64 ∧ 0 ≤ a ∧ a + n ≤ 8 * (l.length : Int)) := Iff.rfl
  unfold bits_within.f
  rw [w64 (x := 8 * (l.length : Int)) (by omega) (by omega)]
  split
  · split
    · split
      · split
        · rw [w64 (by omega) (by omega)]
          congr 1
          apply decide_eq_decide.mpr; rw [hok]; omega
        · rw [decide_eq_false (fun h => by have := hok.mp h; omega)]
      · rw [decide_eq_false (fun h => by have := hok.mp h; omega)]
    · rw [decide_eq_false (fun h => by have := hok.mp h; omega)]
  · rw [decide_eq_false (fun h => by have := hok.mp h; omega)]
theorem get_ok {l : List Int} (hl : Byt l) (hL : l.length ≤ 1000000) {k a n : Nat} (hk : 64 < k) (hn : n ≤ 64) (ha : a + n ≤ 8 * l.length) :
    bits_Get.f k l (a : Int) (n : Int) = some (((num (bitAt l) a n : Nat) : Int), true) := by
  unfold bits_Get.f
  rw [within_f hL, decide_eq_true (show Ok l a n from by unfold Ok; omega), Option.bind_some, if_pos rfl]
  have := get_l0 hl hL n k a 0 0 (by omega) (by omega) ha (by decide)
  rw [show ((0 : Nat) : Int) = 0 from rfl] at this
  rw [this]; simp
theorem get_no {l : List Int} (hL : l.length ≤ 1000000) {k : Nat} {a n : Int} (h : ¬ Ok l a n) : bits_Get.f k l a n = some (0, false) := by
  unfold bits_Get.f
  rw [within_f hL, decide_eq_false h, Option.bind_some, if_neg (by decide)]
theorem get_f {l : List Int} (hl : Byt l) (hL : l.length ≤ 1000000) {k : Nat} (hk : 64 < k) (a n : Int) :
    bits_Get.f k l a n = some (if Ok l a n then (((num (bitAt l) a.toNat n.toNat : Nat) : Int), true) else (0, false)) := by
  by_cases h : Ok l a n
  · rw [if_pos h]
    unfold Ok at h
    have := get_ok hl hL hk (a := a.toNat) (n := n.toNat) (by omega) (by omega)
    rwa [Int.toNat_of_nonneg (by omega), Int.toNat_of_nonneg (by omega)] at this
  · rw [if_neg h, get_no hL h]

/-! The plain reader's Bit and Get. -/
theorem bit_l0 (i : Nat) : ∀ (d k x : Nat), d < k → x < 256 → d ≤ 7 →
    rotuletref01_Bit.l0 k (i : Int) (x : Int) (((i % 8 + d : Nat)) : Int) = some (((x.testBit d).toNat : Nat) : Int) := by
  intro d
  induction d with
  | zero =>
    intro k x hk _ _
    obtain ⟨k, rfl⟩ : ∃ j, k = j + 1 := ⟨k - 1, by omega⟩
    rw [rotuletref01_Bit.l0, show Int.tmod (i : Int) 8 = ((i % 8 : Nat) : Int) from tmod_nat i 8, if_neg (by omega)]
    rw [show Int.tmod (x : Int) 2 = ((x % 2 : Nat) : Int) from tmod_nat x 2, Nat.testBit_zero]
    congr 2
    by_cases h : x % 2 = 1 <;> simp [h] <;> omega
  | succ d ih =>
    intro k x hk hxb hdb
    obtain ⟨k, rfl⟩ : ∃ j, k = j + 1 := ⟨k - 1, by omega⟩
    rw [rotuletref01_Bit.l0, show Int.tmod (i : Int) 8 = ((i % 8 : Nat) : Int) from tmod_nat i 8, if_pos (by omega)]
    have hx2 : wrap64 (Int.tdiv (x : Int) 2) = ((x / 2 : Nat) : Int) := by
      rw [show Int.tdiv (x : Int) 2 = ((x / 2 : Nat) : Int) from tdiv_nat x 2, w64 (by omega) (by omega)]
    rw [hx2]
    have h6 : wrap64 (((i % 8 + (d + 1) : Nat) : Int) - 1) = ((i % 8 + d : Nat) : Int) := by
      rw [w64 (by omega) (by omega)]; omega
    rw [h6, ih k (x / 2) (by omega) (by omega) (by omega), Nat.testBit_succ]
theorem bit_f {l : List Int} (hl : Byt l) (hL : l.length ≤ 1000000) {k i : Nat} (hk : 8 < k) (hi : i < 8 * l.length) :
    rotuletref01_Bit.f k l (i : Int) = some (((bitAt l i).toNat : Nat) : Int) := by
  have hc := hl.at (i / 8)
  have hc2 : (l.getD (i / 8) 0).toNat < 256 := by omega
  have o8 : i / 8 < l.length := by omega
  have o1 : wrap64 (((l.getD (i / 8) 0).toNat : Nat) : Int) = (((l.getD (i / 8) 0).toNat : Nat) : Int) := w64 (by omega) (by omega)
  have o2 : i ≤ 100000000 := by omega
  have o3 : i % 8 + (7 - i % 8) = 7 := by omega
  have o4 : 7 - i % 8 < k := by omega
  have o5 : 7 - i % 8 ≤ 7 := by omega
  unfold rotuletref01_Bit.f
  rw [w_div o2, if_pos (nat_nn _), if_pos (nat_lt o8), hl.rdN, o1]
  have := bit_l0 i (7 - i % 8) k (l.getD (i / 8) 0).toNat o4 hc2 o5
  rw [o3] at this
  exact this
theorem dbl {x m : Nat} {b : Bool} (hx : x < 2 ^ m) (hm : m + 1 ≤ 64) : IntKind.u64.wrap ((IntKind.u64.wrap (2 * (x : Int))) + (IntKind.u64.wrap ((b.toNat : Nat) : Int))) = ((2 * x + b.toNat : Nat) : Int) := by
  have h1 : x < 2 ^ 63 := Nat.lt_of_lt_of_le hx (Nat.pow_le_pow_right (by decide) (by omega))
  have hb : b.toNat ≤ 1 := by cases b <;> decide
  rw [u64_eq, u64_eq, u64_eq]; omega
theorem refget_l0 {l : List Int} (hl : Byt l) (hL : l.length ≤ 1000000) (a n : Nat) (hn : n ≤ 64) (ha : a + n ≤ 8 * l.length) : ∀ (d k m : Nat), d + 8 < k → m + d = n →
    rotuletref01_Get.l0 k l (a : Int) (n : Int) ((num (bitAt l) a m : Nat) : Int) ((a + m : Nat) : Int) = some (((num (bitAt l) a n : Nat) : Int), true) := by
  have e0 : wrap64 ((a : Int) + (n : Int)) = ((a + n : Nat) : Int) := w_add (by omega)
  intro d
  induction d with
  | zero =>
    intro k m hk hm
    obtain ⟨k, rfl⟩ : ∃ j, k = j + 1 := ⟨k - 1, by omega⟩
    have hm : m = n := hm
    subst hm
    rw [rotuletref01_Get.l0, e0, if_neg (Int.lt_irrefl _)]
  | succ d ih =>
    intro k m hk hm
    have o1 : a + m < a + n := by omega
    have o2 : a + m + 1 ≤ 100000000 := by omega
    have o3 : m + 1 + d = n := by omega
    have o4 : m + 1 ≤ 64 := by omega
    have o5 : d + 8 < k - 1 := by omega
    have o6 : a + m < 8 * l.length := by omega
    have o7 : 8 < k - 1 := by omega
    obtain ⟨k, rfl⟩ : ∃ j, k = j + 1 := ⟨k - 1, by omega⟩
    rw [Nat.add_sub_cancel] at o5 o7
    rw [rotuletref01_Get.l0, e0, if_pos (nat_lt o1), bit_f hl hL o7 o6, Option.bind_some, dbl (num_lt _ a m) o4]
    have e1 := w_add (n := a + m) (t := 1) o2
    rw [show ((1 : Nat) : Int) = 1 from rfl] at e1
    rw [e1]
    exact ih k (m + 1) o5 o3
theorem refwithin_f {l : List Int} (hL : l.length ≤ 1000000) (a n : Int) : rotuletref01_within.f l a n = some (decide (Ok l a n)) := by
  rw [← within_f hL]; rfl
theorem refget_f {l : List Int} (hl : Byt l) (hL : l.length ≤ 1000000) {k : Nat} (hk : 100 < k) (a n : Int) :
    rotuletref01_Get.f k l a n = some (if Ok l a n then (((num (bitAt l) a.toNat n.toNat : Nat) : Int), true) else (0, false)) := by
  unfold rotuletref01_Get.f
  rw [refwithin_f hL, Option.bind_some]
  by_cases h : Ok l a n
  · rw [if_pos h, decide_eq_true h, if_pos rfl]
    unfold Ok at h
    obtain ⟨a, rfl⟩ := Int.eq_ofNat_of_zero_le (a := a) (by omega)
    obtain ⟨n, rfl⟩ := Int.eq_ofNat_of_zero_le (a := n) (by omega)
    exact refget_l0 hl hL a n (by omega) (by omega) n k 0 (by omega) (by omega)
  · rw [if_neg h, decide_eq_false h, if_neg (by decide)]
end Go.Proofs.Ytfjcanleekmagaa.Pure
