/- Proved: for all byte lists, any place and number, the law BitsBack answers true. -/
import Derived.Test.YtfjcanleekmagaaFnLBitsBack
import Derived.Test.YtfjcanleekmagaaSet
namespace Go.Proofs.Ytfjcanleekmagaa.Pure
open Go.RowKit Go.Proofs.Ytfjcanleekmagaa.Fn Go.Proofs.YtfjcanleekmagaaW.PrintWords Go.Proofs.YtfjcanleekmagaaW.PrintLast Go.Proofs.YtfjcanleekmagaaW.PrintMore

theorem num_one (f : Nat → Bool) (i : Nat) : num f i 1 = (f i).toNat := by
  rw [num, num, Nat.add_zero, Nat.mul_zero, Nat.zero_add]
theorem back_l0 {l c : List Int} (hl : Byt l) (hc : Byt c) (hL : l.length ≤ 300) (hcl : c.length = l.length) {a n : Nat} (ha : a + n ≤ 8 * l.length) {z : Int}
    (h : ∀ j, ¬ (a ≤ j ∧ j < a + n) → bitAt c j = bitAt l j) : ∀ (d k i : Nat), d + 200 < k → i + d = 8 * l.length →
    rotuletlaw01_BitsBack.l0 k l (n : Int) c (i : Int) (a : Int) z = some true := by
  have o0 : 8 * l.length ≤ 100000000 := by omega
  have o10 : a + n ≤ 100000000 := by omega
  have o11 : l.length ≤ 1000000 := by omega
  have o12 : c.length ≤ 1000000 := by omega
  have e8 : wrap64 (8 * (l.length : Int)) = ((8 * l.length : Nat) : Int) := by rw [w64 (by omega) (by omega)]; omega
  intro d
  induction d with
  | zero =>
    intro k i hk hi
    obtain ⟨k, rfl⟩ : ∃ j, k = j + 1 := ⟨k - 1, by omega⟩
    have hi : i = 8 * l.length := hi
    subst hi
    rw [rotuletlaw01_BitsBack.l0, e8, if_neg (int_irrefl _), alive_t (by clear e8; omega)]
  | succ d ih =>
    intro k i hk hi
    obtain ⟨k, rfl⟩ : ∃ j, k = j + 1 := ⟨k - 1, by clear e8; omega⟩
    have o1 : i < 8 * l.length := by clear e8; omega
    have o2 : i + 1 ≤ 8 * l.length := by clear e8; omega
    have o3 : i + 1 ≤ 8 * c.length := by clear e8; omega
    have o4 : 64 < k := by clear e8; omega
    have o5 : d + 200 < k := by clear e8; omega
    have o6 : i + 1 + d = 8 * l.length := by clear e8; omega
    have o7 : i < 100000000 := by clear e8; omega
    have g1 := get_ok hl o11 (a := i) (n := 1) o4 (by decide) o2
    have g2 := get_ok hc o12 (a := i) (n := 1) o4 (by decide) o3
    rw [show ((1 : Nat) : Int) = 1 from rfl, num_one] at g1 g2
    rw [rotuletlaw01_BitsBack.l0, e8, if_pos (nat_lt o1), g1, g2, Option.bind_some, Option.bind_some, w_add o10, w_succ o7, ih k (i + 1) o5 o6]
    dsimp only
    split
    · rename_i h1
      rw [h i (by clear e8; omega), if_pos rfl]
    · split
      · rename_i h1 h2
        rw [h i (by clear e8; omega), if_pos rfl]
      · rfl
theorem shl_one {n : Nat} (h : n < 64) : shl .u64 1 (IntKind.u64.wrap (n : Int)) = ((2 ^ n : Nat) : Int) := by
  rw [u64_eq, show (n : Int) % 18446744073709551616 = (n : Int) from by omega]
  unfold shl
  rw [Int.toNat_natCast, Nat.min_eq_left (show n ≤ IntKind.u64.bits from by show n ≤ 64; omega), u64_eq]
  have h1 : 2 ^ n ≤ 2 ^ 63 := Nat.pow_le_pow_right (by decide) (by omega)
  have e0 : (1 : Int) * 2 ^ n = ((2 ^ n : Nat) : Int) := by rw [Int.one_mul, Int.natCast_pow]; rfl
  rw [e0]
  generalize 2 ^ n = q at h1 ⊢
  omega
theorem pow_ne (n : Nat) : ¬ ((2 ^ n : Nat) : Int) = 0 := by
  have := Nat.pow_pos (n := n) (show 0 < 2 from by decide)
  generalize 2 ^ n = q at this ⊢
  omega
theorem num_set {c : List Int} {v a n : Nat} (h : ∀ j, a ≤ j ∧ j < a + n → bitAt c j = v.testBit (a + n - 1 - j)) : num (bitAt c) a n = v % 2 ^ n := by
  symm; apply num_of; intro t
  rw [Nat.testBit_mod_two_pow]
  by_cases ht : t < n
  · rw [h _ (by omega), show a + n - 1 - (a + (n - 1 - t)) = t from by omega]
  · rw [decide_eq_false ht]; rfl
theorem back_f {l : List Int} (hl : Byt l) {a n v : Int} (hv : 0 ≤ v ∧ v < 18446744073709551616) : rotuletlaw01_BitsBack.f 5000 l a n v = some true := by
  unfold rotuletlaw01_BitsBack.f
  split
  · exact alive_t (by decide)
  · rename_i h1
    have hL : l.length ≤ 300 := by omega
    have hL' : l.length ≤ 1000000 := by omega
    by_cases hok : Ok l a n
    · unfold Ok at hok
      obtain ⟨a, rfl⟩ := Int.eq_ofNat_of_zero_le (a := a) (by omega)
      obtain ⟨n, rfl⟩ := Int.eq_ofNat_of_zero_le (a := n) (by omega)
      obtain ⟨v, rfl⟩ := Int.eq_ofNat_of_zero_le (a := v) (by omega)
      have hn : n ≤ 64 := by omega
      have ha : a + n ≤ 8 * l.length := by omega
      obtain ⟨c, hc1, hc2, hc3, hc4⟩ := put_ok (v := v) hl hL' (k := 5000) (by decide) hn ha
      obtain ⟨d, hd1, hd2, hd3, hd4⟩ := put_ok (v := num (bitAt l) a n) hc3 (by omega) (k := 4999) (by decide) hn (show a + n ≤ 8 * c.length from by omega)
      have hdl : d = l := by
        apply same_bits hd3 hl (by omega)
        intro j _
        rw [hd4, hc4]
        by_cases hj : a ≤ j ∧ j < a + n
        · rw [if_pos hj, num_bit, decide_eq_true (by omega), Bool.true_and]
          congr 1; omega
        · rw [if_neg hj, if_neg hj]
      have hnum : num (bitAt c) a n = v % 2 ^ n := num_set fun j hj => by rw [hc4, if_pos hj]
      have g1 := get_ok hl hL' (k := 5000) (by decide) hn ha
      have g2 := get_ok hc3 (by omega) (k := 4999) (by decide) hn (show a + n ≤ 8 * c.length from by omega)
      have last : rotuletlaw01_BitsBack.j2 4998 l (n : Int) c false (a : Int) (n : Int) = some true := by
        rw [rotuletlaw01_BitsBack.j2, if_neg (by decide)]
        exact back_l0 hl hc3 hL hc2 ha (fun j hj => by rw [hc4, if_neg hj]) (8 * l.length) 4997 0 (by omega) (Nat.zero_add _)
      have mid : rotuletlaw01_BitsBack.j1 4999 l (v : Int) (n : Int) c ((num (bitAt c) a n : Nat) : Int) false (a : Int) (n : Int) = some true := by
        rw [rotuletlaw01_BitsBack.j1, if_neg (by decide), hnum]
        by_cases h64 : n < 64
        · rw [if_pos (by omega), if_pos (by rw [u64_eq]; omega), shl_one h64, if_neg (pow_ne n), tmod_nat, if_pos rfl, if_neg (by omega)]
          exact last
        · have : n = 64 := by omega
          subst this
          rw [if_neg (by decide), if_pos (show ((64 : Nat) : Int) = 64 from rfl)]
          have e : v % 2 ^ 64 = v := Nat.mod_eq_of_lt (by omega)
          rw [e, show (((v : Nat) : Int) != ((v : Nat) : Int)) = false from by simp]
          exact last
      rw [g1, Option.bind_some, hc1, Option.bind_some]
      dsimp only
      rw [if_pos rfl, rotuletlaw01_BitsBack.j0, if_neg (by decide), g2, Option.bind_some, hd1, Option.bind_some]
      dsimp only
      rw [if_pos rfl, if_pos rfl, if_pos (by omega), hdl]
      rw [show ((strOfNums l).toList != (strOfNums l).toList) = false from by simp]
      exact mid
    · rw [get_no hL' hok, Option.bind_some, put_no hL' hok, Option.bind_some]
      dsimp only
      rw [if_neg (by decide), rotuletlaw01_BitsBack.j0, if_pos rfl, alive_f (by decide), Option.bind_some, if_pos rfl, if_neg (by decide)]
      rfl
theorem BitsBack.walk (a0 : Option Addr) (len0 cap0 : Nat) (z0 : List Int) (a1_0 a1_1 a2 : Int) (w : World) (w0 : (a0 = none ∧ len0 = 0 ∧ cap0 = 0 ∧ z0 = []) ∨ ∃ x, a0 = some x ∧ len0 ≤ cap0 ∧ cap0 ≤ maxLen ∧ z0.length = cap0 ∧ (∀ i, i < z0.length → w.cell? (x.add i) = some (.int .u8 (z0.getD i 0))) ∧ ∀ n ∈ z0, (Lit.int .u8 n).wf = true) (y0 : len0 * 1 ≤ 140737488351232) (_w1 : (Lit.int .i64 a1_0).wf = true) (_w2 : (Lit.int .i64 a1_1).wf = true) (w3 : (Lit.int .u64 a2).wf = true) :
    Calls Try.prog 4 #[.slice a0 len0 cap0, .agg #[.int .i64 a1_0, .int .i64 a1_1], .int .u64 a2] w fun e w' => e = .returned (.bool true) ∧ Below w.heap.size w w' := by
  obtain ⟨l0, rfl, hr0, hm0, hw0, hc0⟩ := ReadsInt.ofRowC w0
  exact rotuletlaw01_BitsBack.calls 5000 _ _ l0 a1_0 a1_1 a2 true rfl w (Kd.C_of_reads (d := (0 : Int)) (h1 := fun _ => rfl) hr0) hc0 (back_f (fun x hx => wf_u8 (hw0 x hx)) (wf_u64 w3))
end Go.Proofs.Ytfjcanleekmagaa.Pure
