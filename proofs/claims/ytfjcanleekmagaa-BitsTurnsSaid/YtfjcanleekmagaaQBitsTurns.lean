/- Proved: for all numbers and widths, byte lists and places, the law BitsTurns answers true. -/
import Derived.Test.YtfjcanleekmagaaFnLBitsTurns
import Derived.Test.YtfjcanleekmagaaTurn
namespace Go.Proofs.Ytfjcanleekmagaa.Pure
open Go.RowKit Go.Proofs.Ytfjcanleekmagaa.Fn Go.Proofs.YtfjcanleekmagaaW.PrintWords Go.Proofs.YtfjcanleekmagaaW.PrintLast Go.Proofs.YtfjcanleekmagaaW.PrintMore

theorem shl_one {n : Nat} (h : n < 64) : shl .u64 1 (IntKind.u64.wrap (n : Int)) = ((2 ^ n : Nat) : Int) := by
  rw [u64_eq, show (n : Int) % 18446744073709551616 = (n : Int) from by omega]
  unfold shl
  rw [Int.toNat_natCast, Nat.min_eq_left (show n ≤ IntKind.u64.bits from by show n ≤ 64; omega), u64_eq]
  have h1 : 2 ^ n ≤ 2 ^ 63 := Nat.pow_le_pow_right (by decide) (by omega)
  have e0 : (1 : Int) * 2 ^ n = ((2 ^ n : Nat) : Int) := by rw [Int.one_mul, Int.natCast_pow]; rfl
  rw [e0]
  generalize 2 ^ n = q at h1 ⊢
  omega
theorem pow_ne (n : Nat) : ¬ ((2 ^ n : Nat) : Int) = 0 := by
  have := Nat.pow_pos (n := n) (show 0 < 2 from by decide)
  generalize 2 ^ n = q at this ⊢
  omega
theorem rv_rv (v w : Nat) : rv (rv v w) w = v % 2 ^ w := by
  apply Nat.eq_of_testBit_eq; intro t
  rw [rv_bit, rv_bit, Nat.testBit_mod_two_pow]
  by_cases ht : t < w
  · rw [decide_eq_true ht, decide_eq_true (by omega), show w - 1 - (w - 1 - t) = t from by omega]; rfl
  · rw [decide_eq_false ht]; rfl
theorem wd_in {n : Nat} (h : n ≤ 64) : wd (n : Int) = n := by unfold wd; omega
theorem ext_in {n : Nat} (h : 1 ≤ n) (v : Int) : ext v n = W n v := by unfold ext; rw [if_neg (by omega)]
theorem ext_two {n : Nat} (h1 : 1 ≤ n) (h2 : n ≤ 64) (v : Int) : W n (IntKind.u64.wrap (W n v)) = W n v := by
  have e : W n (IntKind.u64.wrap (W n v)) = W n (W n v) := by
    refine W_congr (Int.dvd_trans (P_dvd h2) ⟨-(W n v / 18446744073709551616), ?_⟩)
    rw [u64_eq]; omega
  have hb := W_bd h1 v
  rw [e, W_fix h1 hb.1 hb.2]
theorem ext_odd {n : Nat} (h1 : 1 ≤ n) (v : Int) : IntKind.u64.wrap (W n v) % 2 = v % 2 := by
  have h : (2 : Int) ∣ W n v - v := by
    refine Int.dvd_trans ?_ (W_dvd n v)
    rw [P_half h1]; exact Int.dvd_mul_right _ _
  rw [u64_eq]; omega
theorem tail_f {b : List Int} (hb : Byt b) (hL : b.length ≤ 300) {x y z : Int} (hz : -9223372036854775808 ≤ z ∧ z < 9223372036854775808) : rotuletlaw01_BitsTurns.j2 4901 b false x y z = some true := by
  have hL' : b.length ≤ 1000000 := by omega
  rw [rotuletlaw01_BitsTurns.j2, if_neg (by decide)]
  by_cases h1 : Ok b x y
  · unfold Ok at h1
    obtain ⟨x, rfl⟩ := Int.eq_ofNat_of_zero_le (a := x) (by omega)
    obtain ⟨y, rfl⟩ := Int.eq_ofNat_of_zero_le (a := y) (by omega)
    have o1 : y ≤ 64 := by omega
    have o2 : x + y ≤ 8 * b.length := by omega
    have o3 : x + y ≤ 100000000 := by omega
    rw [get_ok hb hL' (by decide) o1 o2, Option.bind_some]
    dsimp only
    rw [if_pos rfl, w_add o3]
    by_cases h2 : Ok b ((x + y : Nat) : Int) z
    · unfold Ok at h2
      obtain ⟨z, rfl⟩ := Int.eq_ofNat_of_zero_le (a := z) (by omega)
      have o4 : z ≤ 64 := by omega
      have o5 : x + y + z ≤ 8 * b.length := by omega
      have o6 : y + z ≤ 100000000 := by omega
      rw [get_ok hb hL' (by decide) o4 o5, Option.bind_some]
      dsimp only
      rw [if_pos rfl, w_add o6]
      by_cases h3 : ((y + z : Nat) : Int) > 64
      · rw [decide_eq_true h3, rotuletlaw01_BitsTurns.j3, if_pos rfl, alive_t (by decide)]
      · have o7 : y + z ≤ 64 := by omega
        have o8 : x + (y + z) ≤ 8 * b.length := by omega
        have hadd := num_add (bitAt b) x y z
        have hlt := num_lt64 (bitAt b) x o7
        rw [decide_eq_false h3, rotuletlaw01_BitsTurns.j3, if_neg (by decide), w_add o6, get_ok hb hL' (by decide) o7 o8, Option.bind_some, alive_f (by decide), Option.bind_some, if_pos rfl]
        dsimp only
        rw [if_pos rfl]
        by_cases h4 : z = 64
        · subst h4
          have : y = 0 := by omega
          subst this
          have e : num (bitAt b) x (0 + 64) = num (bitAt b) (x + 0) 64 := by rw [Nat.zero_add, Nat.add_zero]
          rw [if_pos (show ((64 : Nat) : Int) = 64 from rfl), if_pos (by rw [e])]
        · have o9 : z < 64 := by omega
          rw [if_neg (by omega), if_pos (by omega), if_pos (by rw [u64_eq]; omega), shl_one o9]
          have e : IntKind.u64.wrap ((IntKind.u64.wrap (((num (bitAt b) x y : Nat) : Int) * ((2 ^ z : Nat) : Int))) + ((num (bitAt b) (x + y) z : Nat) : Int)) = ((num (bitAt b) x (y + z) : Nat) : Int) := by
            rw [hadd] at hlt ⊢
            rw [u64_eq, u64_eq, ← Int.natCast_mul]
            generalize num (bitAt b) x y * 2 ^ z = q at hlt ⊢
            omega
          rw [e]; simp
    · rw [get_no hL' h2, Option.bind_some]
      dsimp only
      rw [if_neg (by decide), rotuletlaw01_BitsTurns.j3, if_pos rfl, alive_t (by decide)]
  · rw [get_no hL' h1, Option.bind_some]
    dsimp only
    rw [if_neg (by decide), alive_t (by decide)]
theorem turns_j1 {b : List Int} (hb : Byt b) (hL : b.length ≤ 300) {x y z : Int} (hz : -9223372036854775808 ≤ z ∧ z < 9223372036854775808) {v n : Nat} (h1 : 1 ≤ n) (h2 : n ≤ 64) :
    rotuletlaw01_BitsTurns.j1 4902 b (v : Int) (n : Int) ((v % 2 ^ n : Nat) : Int) x y z = some true := by
  rw [rotuletlaw01_BitsTurns.j1, extend_f, Option.bind_some, reverse_f, Option.bind_some, reverse_f, Option.bind_some, wd_in h2, rv_rv, if_pos rfl, extend_f, Option.bind_some, wd_in h2, ext_in h1, ext_in h1, ext_two h1 h2, if_pos rfl]
  have e : ((Int.tmod (IntKind.u64.wrap (W n (v : Int))) 2) != (Int.tmod (v : Int) 2)) = false := by
    rw [Int.tmod_eq_emod_of_nonneg (by rw [u64_eq]; omega), Int.tmod_eq_emod_of_nonneg (by omega), ext_odd h1]; simp
  rw [e]
  exact tail_f hb hL hz
theorem turns_f {b : List Int} (hb : Byt b) {v n x y z : Int} (hv : 0 ≤ v ∧ v < 18446744073709551616) (hz : -9223372036854775808 ≤ z ∧ z < 9223372036854775808) : rotuletlaw01_BitsTurns.f 4903 v n b x y z = some true := by
  have yes : rotuletlaw01_BitsTurns.j0 4903 b v n true x y z = some true := by
    rw [rotuletlaw01_BitsTurns.j0, if_pos rfl, alive_t (by decide)]
  unfold rotuletlaw01_BitsTurns.f
  split
  · exact yes
  · split
    · exact yes
    · by_cases hL : (b.length : Int) > 300
      · rw [decide_eq_true hL]; exact yes
      · obtain ⟨v, rfl⟩ := Int.eq_ofNat_of_zero_le (a := v) (by omega)
        obtain ⟨n, rfl⟩ := Int.eq_ofNat_of_zero_le (a := n) (by omega)
        have o1 : 1 ≤ n := by omega
        have o2 : n ≤ 64 := by omega
        have o3 : b.length ≤ 300 := by omega
        rw [decide_eq_false hL, rotuletlaw01_BitsTurns.j0, if_neg (by decide)]
        have go := turns_j1 hb o3 (x := x) (y := y) hz (v := v) o1 o2
        by_cases h64 : n < 64
        · rw [if_pos (by omega), if_pos (by rw [u64_eq]; omega), shl_one h64, if_neg (pow_ne n), tmod_nat]
          exact go
        · have : n = 64 := by omega
          subst this
          rw [if_neg (by decide)]
          rw [show v % 2 ^ 64 = v from Nat.mod_eq_of_lt (by omega)] at go
          exact go
theorem BitsTurns.walk (a0_0 a0_1 : Int) (a1 : Option Addr) (len1 cap1 : Nat) (z1 : List Int) (a2_0 a2_1 a2_2 : Int) (w : World) (w0 : (Lit.int .u64 a0_0).wf = true) (_w1 : (Lit.int .i64 a0_1).wf = true) (w2 : (a1 = none ∧ len1 = 0 ∧ cap1 = 0 ∧ z1 = []) ∨ ∃ x, a1 = some x ∧ len1 ≤ cap1 ∧ cap1 ≤ maxLen ∧ z1.length = cap1 ∧ (∀ i, i < z1.length → w.cell? (x.add i) = some (.int .u8 (z1.getD i 0))) ∧ ∀ n ∈ z1, (Lit.int .u8 n).wf = true) (_y1 : len1 * 1 ≤ 140737488351232) (_w3 : (Lit.int .i64 a2_0).wf = true) (_w4 : (Lit.int .i64 a2_1).wf = true) (w5 : (Lit.int .i64 a2_2).wf = true) :
    Calls Try.prog 5 #[.agg #[.int .u64 a0_0, .int .i64 a0_1], .slice a1 len1 cap1, .agg #[.int .i64 a2_0, .int .i64 a2_1, .int .i64 a2_2]] w fun e w' => e = .returned (.bool true) ∧ Below w.heap.size w w' := by
  obtain ⟨l1, rfl, hr1, hm1, hw1, hc1⟩ := ReadsInt.ofRowC w2
  exact rotuletlaw01_BitsTurns.calls 4903 _ _ _ _ l1 _ _ _ true rfl w (Kd.C_of_reads (d := (0 : Int)) (h1 := fun _ => rfl) hr1) hc1 (turns_f (fun x hx => wf_u8 (hw1 x hx)) (wf_u64 w0) (wf_i64 w5))
end Go.Proofs.Ytfjcanleekmagaa.Pure
