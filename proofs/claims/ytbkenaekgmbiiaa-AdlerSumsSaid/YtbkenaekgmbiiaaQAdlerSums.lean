/- Proved: for all bytes (at most 4000), two sums and a number, the law AdlerSums answers true. -/
import Derived.Test.YtbkenaekgmbiiaaFn9
import Derived.Test.YtbkenaekgmbiiaaWin
namespace Go.Proofs.Ytbkenaekgmbiiaa.Pure
open Go.RowKit Go.Proofs.Ytbkenaekgmbiiaa.Fn Go.Proofs.YtbkenaekgmbiiaaW.PrintWords Go.Proofs.YtbkenaekgmbiiaaW.PrintLast

theorem wf_i64 {x : Int} (h : (Lit.int .i64 x).wf = true) : -9223372036854775808 ≤ x ∧ x < 9223372036854775808 := by
  simp [Lit.wf, IntKind.min, IntKind.max, IntKind.bits, IntKind.signed] at h
  omega
theorem wf_u32 {x : Int} (h : (Lit.int .u32 x).wf = true) : 0 ≤ x ∧ x < 4294967296 := by
  simp [Lit.wf, IntKind.min, IntKind.max, IntKind.bits, IntKind.signed] at h
  omega

theorem mx_eq (n : Int) : mx n 0 = max n 0 := by unfold mx; split <;> omega

theorem enc_of {u v a b : Int} (hu : u % 65521 = b % 65521) (hv : v % 65521 = a % 65521) : (65536 * (u % 65521) + v % 65521) % 4294967296 = enc a b := by
  unfold enc
  omega

theorem ref_join {x y n : Int} (h0 : 0 ≤ x) (h1 : x < 4294967296) (h2 : 0 ≤ y) (h3 : y < 4294967296) (hn : n < 9223372036854775808) :
    rotuletref03_Join.f x y n = some (enc (x % 65536 + y % 65536 - 1) (x / 65536 + y / 65536 + max n 0 * (x % 65536 - 1))) := by
  unfold rotuletref03_Join.f
  have hp : 0 ≤ max n 0 % 65521 * (x % 65536 % 65521 + 65521 - 1) ∧ max n 0 % 65521 * (x % 65536 % 65521 + 65521 - 1) ≤ 65521 * 131042 :=
    ⟨Int.mul_nonneg (by omega) (by omega), Int.mul_le_mul (by omega) (by omega) (by omega) (by omega)⟩
  have e1 := mod_mul' (max n 0) (x % 65536 % 65521 + 65521 - 1)
  have e2 : (max n 0 * (x % 65536 % 65521 + 65521 - 1)) % 65521 = (max n 0 * (x % 65536 - 1)) % 65521 := by
    have e := mod_mul (max n 0) (x % 65536 % 65521 + 65521 - 1)
    have e' := mod_mul (max n 0) (x % 65536 - 1)
    rw [← e, ← e', show (x % 65536 % 65521 + 65521 - 1) % 65521 = (x % 65536 - 1) % 65521 from by omega]
  rw [mx_eq, tdiv_in h0, tdiv_in h2, tmod_in h0, tmod_in h2, tmod_in (n := x % 65536) (by omega), tmod_in (n := y % 65536) (by omega),
    u64_in (n := max n 0) (by omega) (by omega), tmod_in (n := max n 0) (by omega), u64_in (n := x % 65536 % 65521) (by omega) (by omega),
    u64_in (n := y % 65536 % 65521) (by omega) (by omega),
    u64_in (n := x % 65536 % 65521 + 65521) (by omega) (by omega), u64_in (n := x % 65536 % 65521 + 65521 - 1) (by omega) (by omega),
    u64_in (n := max n 0 % 65521 * (x % 65536 % 65521 + 65521 - 1)) (by omega) (by omega),
    u64_in (n := x % 65536 % 65521 + y % 65536 % 65521) (by omega) (by omega), u64_in (n := x % 65536 % 65521 + y % 65536 % 65521 + 65521) (by omega) (by omega),
    u64_in (n := x % 65536 % 65521 + y % 65536 % 65521 + 65521 - 1) (by omega) (by omega), tmod_in (n := x % 65536 % 65521 + y % 65536 % 65521 + 65521 - 1) (by omega)]
  rw [u64_in (n := x / 65536 % 4294967296 % 65521 + y / 65536 % 4294967296 % 65521 + _) (by omega) (by omega), tmod_in (by omega), u64_in (n := 65536 * _) (by omega) (by omega), u64_in (by omega) (by omega)]
  congr 1
  refine enc_of (by omega) (by omega)

theorem ref_roll {s n o i : Int} (h0 : 0 ≤ s) (h1 : s < 4294967296) (hn : n < 9223372036854775808) (ho : 0 ≤ o ∧ o ≤ 255) (hi : 0 ≤ i ∧ i ≤ 255) :
    rotuletref03_Roll.f s n o i = some (enc (s % 65536 - o + i) (s / 65536 - max n 0 * o - 1 + (s % 65536 - o + i))) := by
  unfold rotuletref03_Roll.f
  have hp : 0 ≤ max n 0 % 65521 * o ∧ max n 0 % 65521 * o ≤ 65521 * 255 :=
    ⟨Int.mul_nonneg (by omega) (by omega), Int.mul_le_mul (by omega) (by omega) (by omega) (by omega)⟩
  have hq := mod_mul' (max n 0) o
  rw [mx_eq, tdiv_in h0, tmod_in h0, tmod_in (n := s % 65536) (by omega), u64_in (n := max n 0) (by omega) (by omega), tmod_in (n := max n 0) (by omega),
    u64_in (n := o) (by omega) (by omega), u64_in (n := i) (by omega) (by omega), u64_in (n := max n 0 % 65521 * o) (by omega) (by omega), tmod_in (n := max n 0 % 65521 * o) (by omega),
    u64_in (n := s % 65536 % 65521) (by omega) (by omega), u64_in (n := s % 65536 % 65521 + 65521) (by omega) (by omega),
    u64_in (n := s % 65536 % 65521 + 65521 - o) (by omega) (by omega), u64_in (n := s % 65536 % 65521 + 65521 - o + i) (by omega) (by omega), tmod_in (n := s % 65536 % 65521 + 65521 - o + i) (by omega)]
  rw [u64_in (n := s / 65536 % 4294967296 % 65521 + 65521 - _) (by omega) (by omega), u64_in (n := s / 65536 % 4294967296 % 65521 + 65521 - _ + 65521) (by omega) (by omega),
    u64_in (n := s / 65536 % 4294967296 % 65521 + 65521 - _ + 65521 - 1) (by omega) (by omega), u64_in (n := s / 65536 % 4294967296 % 65521 + 65521 - _ + 65521 - 1 + _) (by omega) (by omega),
    tmod_in (by omega), u64_in (n := 65536 * _) (by omega) (by omega), u64_in (by omega) (by omega)]
  congr 1
  have hL : (s % 65536 % 65521 + 65521 - o + i) % 65521 = (s % 65536 - o + i) % 65521 := by omega
  refine enc_of ?_ hL
  rw [hq, hL, show s / 65536 % 4294967296 = s / 65536 from by omega]
  generalize max n 0 * o = z
  generalize s % 65536 - o + i = u
  generalize s / 65536 = v
  omega

theorem AdlerSums (l : List Int) (s t n : Int) (_hm : l.length ≤ maxLen) (hl : l.length * 1 ≤ 140737488351232) (hb : ∀ x ∈ l, (Lit.int .u8 x).wf = true)
    (hs : (Lit.int .u32 s).wf = true) (ht : (Lit.int .u32 t).wf = true) (hn : (Lit.int .i64 n).wf = true) : ∃ k, rotuletlaw03_AdlerSums.f k l s t n = some true := by
  have hb := Bytes.of_wf hb
  have hs := wf_u32 hs
  have ht := wf_u32 ht
  have hn := wf_i64 hn
  refine ⟨30000, ?_⟩
  unfold rotuletlaw03_AdlerSums.f
  by_cases h1 : (l.length : Int) > 4000
  · rw [if_pos h1, alive_f (by omega)]
    rfl
  · rw [if_neg h1]
    simp only [Option.bind_some, List.nil_append, List.length_nil, Nat.zero_add]
    have ho : 0 ≤ (Int.tmod s 256) % 256 ∧ (Int.tmod s 256) % 256 ≤ 255 := by omega
    have hi : 0 ≤ (Int.tdiv t 256) % 256 ∧ (Int.tdiv t 256) % 256 ≤ 255 := by omega
    rw [if_pos (by omega), alive_f (by omega), Option.bind_some, if_pos rfl, sum_of (by omega) hb (by omega), Option.bind_some, ref_sum (by omega) hb (by omega), Option.bind_some, if_pos rfl,
      more_eq (by omega) hb (by omega) hs.1 hs.2, Option.bind_some, ref_more (by omega) hb (by omega) hs.1 hs.2, Option.bind_some, if_pos rfl,
      join_eq hs.1 hs.2 ht.1 ht.2 hn.2, Option.bind_some, ref_join hs.1 hs.2 ht.1 ht.2 hn.2, Option.bind_some, if_pos rfl,
      roll_eq hs.1 hs.2 hn.2 ho hi, Option.bind_some, ref_roll hs.1 hs.2 hn.2 ho hi, Option.bind_some, if_pos rfl]
    simp

theorem AdlerSums.walk (a0 : Option Addr) (len0 cap0 : Nat) (z0 : List Int) (a1_0 a1_1 a2 : Int) (w : World) (w0 : (a0 = none ∧ len0 = 0 ∧ cap0 = 0 ∧ z0 = []) ∨ ∃ x, a0 = some x ∧ len0 ≤ cap0 ∧ cap0 ≤ maxLen ∧ z0.length = cap0 ∧ (∀ i, i < z0.length → w.cell? (x.add i) = some (.int .u8 (z0.getD i 0))) ∧ ∀ n ∈ z0, (Lit.int .u8 n).wf = true) (y0 : len0 * 1 ≤ 140737488351232) (w1 : (Lit.int .u32 a1_0).wf = true) (w2 : (Lit.int .u32 a1_1).wf = true) (w3 : (Lit.int .i64 a2).wf = true) :
    Calls Try.prog 6 #[.slice a0 len0 cap0, .agg #[.int .u32 a1_0, .int .u32 a1_1], .int .i64 a2] w fun e w' => e = .returned (.bool true) ∧ Below w.heap.size w w' := by
  obtain ⟨l0, rfl, hr0, hm0, hw0, hc0⟩ := ReadsInt.ofRowC w0
  obtain ⟨k, h⟩ := AdlerSums l0 a1_0 a1_1 a2 hm0 y0 hw0 w1 w2 w3
  exact rotuletlaw03_AdlerSums.calls k _ _ l0 a1_0 a1_1 a2 true rfl w (Kd.C_of_reads (d := (0 : Int)) (h1 := fun _ => rfl) hr0) hc0 h

end Go.Proofs.Ytbkenaekgmbiiaa.Pure
