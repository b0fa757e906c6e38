/- Proved: for all byte lists and any number, the law BitsBytes answers true. -/
import Derived.Test.YtfjcanleekmagaaFnLBitsBytes
import Derived.Test.YtfjcanleekmagaaCnt
namespace Go.Proofs.Ytfjcanleekmagaa.Pure
open Go.RowKit Go.Proofs.Ytfjcanleekmagaa.Fn Go.Proofs.YtfjcanleekmagaaW.PrintWords Go.Proofs.YtfjcanleekmagaaW.PrintLast Go.Proofs.YtfjcanleekmagaaW.PrintMore

theorem bytes_step {x m : Nat} {c : Int} (hx : x < 2 ^ (8 * m)) (hm : m < 8) (hc : 0 ≤ c ∧ c < 256) :
    IntKind.u64.wrap ((IntKind.u64.wrap ((x : Int) * 256)) + (IntKind.u64.wrap c)) = ((x * 256 + c.toNat : Nat) : Int) := by
  have h1 : x < 2 ^ 56 := Nat.lt_of_lt_of_le hx (Nat.pow_le_pow_right (by decide) (by omega))
  rw [u64_eq, u64_eq, u64_eq]; omega
theorem bytes_l1 {b : List Int} (hb : Byt b) (hL : b.length ≤ 300) {a n : Nat} (hn : n ≤ 8) (ha : a + n ≤ b.length) : ∀ (d k m : Nat), d < k → m + d = n →
    rotuletlaw01_BitsBytes.l1 k b (a : Int) (n : Int) ((num (bitAt b) (8 * a) (8 * n) : Nat) : Int) true ((num (bitAt b) (8 * a) (8 * m) : Nat) : Int) (m : Int) = rotuletlaw01_BitsBytes.l0 (k - d - 1) b (a : Int) (wrap64 (2 * (n : Int))) := by
  intro d
  induction d with
  | zero =>
    intro k m hk hm
    obtain ⟨k, rfl⟩ : ∃ j, k = j + 1 := ⟨k - 1, by omega⟩
    have hm : m = n := hm
    subst hm
    rw [rotuletlaw01_BitsBytes.l1, if_neg (int_irrefl _), if_pos rfl]; rfl
  | succ d ih =>
    intro k m hk hm
    have o1 : m < n := by omega
    have o2 : a + m ≤ 100000000 := by omega
    have o3 : a + m < b.length := by omega
    have o4 : m + 1 + d = n := by omega
    have o5 : m < 8 := by omega
    have o6 : m < 100000000 := by omega
    have o7 : d < k - 1 := by omega
    obtain ⟨k, rfl⟩ : ∃ j, k = j + 1 := ⟨k - 1, by omega⟩
    rw [Nat.add_sub_cancel] at o7
    have h1 := num_lt (bitAt b) (8 * a) (8 * m)
    have h2 := hb.at (a + m)
    rw [rotuletlaw01_BitsBytes.l1, if_pos (nat_lt o1), if_pos rfl, w_add o2, if_pos (nat_nn _), if_pos (nat_lt o3), w_succ o6]
    have e : rd b ((a + m : Nat) : Int) = b.getD (a + m) 0 := by unfold rd; rw [Int.toNat_natCast]
    rw [e, bytes_step h1 o5 h2, ← num_bytes hb a m, ih k (m + 1) o7 o4]
    rw [show k + 1 - (d + 1) - 1 = k - d - 1 from by omega]
theorem bytes_no {b : List Int} {a : Int} {n : Int} {k : Nat} : rotuletlaw01_BitsBytes.l1 (k + 1) b a n 0 false 0 0 = rotuletlaw01_BitsBytes.l0 k b a (wrap64 (2 * n)) := by
  rw [rotuletlaw01_BitsBytes.l1]
  split
  · rw [if_neg (by decide), if_pos rfl]
  · rw [if_pos rfl]
theorem bytes_l0 {b : List Int} (hb : Byt b) (hL : b.length ≤ 300) {a n : Nat} (hn : n ≤ 8) (hn1 : 1 ≤ n) (ha : a < b.length) {k : Nat} (hk : 200 < k) :
    ∃ j, k ≤ j + 12 ∧ rotuletlaw01_BitsBytes.l0 k b (a : Int) (n : Int) = rotuletlaw01_BitsBytes.l0 j b (a : Int) ((2 * n : Nat) : Int) := by
  have o1 : (n : Int) ≤ 8 := by omega
  have o2 : wrap64 (8 * (a : Int)) = ((8 * a : Nat) : Int) := by rw [w64 (by omega) (by omega)]; omega
  have o3 : wrap64 (8 * (n : Int)) = ((8 * n : Nat) : Int) := by rw [w64 (by omega) (by omega)]; omega
  have o4 : wrap64 (2 * (n : Int)) = ((2 * n : Nat) : Int) := by rw [w64 (by omega) (by omega)]; omega
  have o5 : wrap64 ((a : Int) + (n : Int)) = ((a + n : Nat) : Int) := w_add (by omega)
  obtain ⟨k, rfl⟩ : ∃ j, k = j + 1 := ⟨k - 1, by clear o2 o3 o4 o5; omega⟩
  have hk' : 64 < k := by clear o2 o3 o4 o5; omega
  rw [rotuletlaw01_BitsBytes.l0, if_pos o1, o2, o3, o5]
  by_cases hin : a + n ≤ b.length
  · have q1 : 8 * n ≤ 64 := by clear o2 o3 o4 o5; omega
    have q2 : 8 * a + 8 * n ≤ 8 * b.length := by clear o2 o3 o4 o5; omega
    have q3 : b.length ≤ 1000000 := by clear o2 o3 o4 o5; omega
    refine ⟨k - n - 1, by clear o2 o3 o4 o5; omega, ?_⟩
    rw [get_ok hb q3 hk' q1 q2, Option.bind_some]
    dsimp only
    rw [decide_eq_true (nat_le hin), if_neg (by decide)]
    have := bytes_l1 hb hL hn hin n k 0 (by clear o2 o3 o4 o5; omega) (Nat.zero_add _)
    rw [o4] at this
    exact this
  · have q3 : b.length ≤ 1000000 := by clear o2 o3 o4 o5; omega
    have q4 : ¬ Ok b ((8 * a : Nat) : Int) ((8 * n : Nat) : Int) := by
      clear o2 o3 o4 o5
      unfold Ok; omega
    have q5 : ¬ ((a + n : Nat) : Int) ≤ (b.length : Int) := by clear o2 o3 o4 o5; omega
    obtain ⟨k, rfl⟩ : ∃ j, k = j + 1 := ⟨k - 1, by clear o2 o3 o4 o5; omega⟩
    refine ⟨k, by clear o2 o3 o4 o5; omega, ?_⟩
    rw [get_no q3 q4, Option.bind_some]
    dsimp only
    rw [decide_eq_false q5, if_neg (by decide), bytes_no, o4]
theorem bytes_all {b : List Int} (hb : Byt b) (hL : b.length ≤ 300) {a : Nat} (ha : a < b.length) {k : Nat} (hk : 300 < k) :
    rotuletlaw01_BitsBytes.l0 k b (a : Int) 1 = some true := by
  obtain ⟨k1, h1, e1⟩ := bytes_l0 hb hL (n := 1) (by decide) (by decide) ha (k := k) (by omega)
  obtain ⟨k2, h2, e2⟩ := bytes_l0 hb hL (n := 2) (by decide) (by decide) ha (k := k1) (by omega)
  obtain ⟨k3, h3, e3⟩ := bytes_l0 hb hL (n := 4) (by decide) (by decide) ha (k := k2) (by omega)
  obtain ⟨k4, h4, e4⟩ := bytes_l0 hb hL (n := 8) (by decide) (by decide) ha (k := k3) (by omega)
  have e1 : rotuletlaw01_BitsBytes.l0 k b (a : Int) 1 = rotuletlaw01_BitsBytes.l0 k1 b (a : Int) ((2 : Nat) : Int) := e1
  rw [e1, e2]
  rw [show 2 * 2 = 4 from rfl, e3, show 2 * 4 = 8 from rfl, e4]
  obtain ⟨k5, rfl⟩ : ∃ j, k4 = j + 1 := ⟨k4 - 1, by omega⟩
  rw [rotuletlaw01_BitsBytes.l0, if_neg (by decide), alive_t (by omega)]
theorem BitsBytes : rotuletlaw01_BitsBytes.Pure := by
  intro b c a _ _ hb _ _ hc ha
  have hb : Byt b := fun x hx => wf_u8 (hb x hx)
  have hc : Byt c := fun x hx => wf_u8 (hc x hx)
  refine ⟨2000, ?_⟩
  have yes : (b.length : Int) > 300 ∨ (c.length : Int) > 300 → rotuletlaw01_BitsBytes.j0 2000 b c a true = some true := by
    intro h
    rw [rotuletlaw01_BitsBytes.j0, if_pos rfl, alive_f (by decide), Option.bind_some, if_pos rfl]
    split
    · rfl
    · rw [decide_eq_true (by omega)]
  unfold rotuletlaw01_BitsBytes.f
  split
  · exact yes (by omega)
  · split
    · exact yes (by omega)
    · rename_i h1 h2
      have o1 : b.length ≤ 300 := by omega
      have o2 : c.length ≤ 300 := by omega
      have hbc : Byt (b ++ c) := fun x hx => (List.mem_append.mp hx).elim (hb x) (hc x)
      have o3 : (b ++ c).length = b.length + c.length := List.length_append
      rw [Option.bind_some, if_pos (by simp only [List.length_nil]; omega), Option.bind_some, List.nil_append, if_pos (by omega)]
      have q1 := cnt_le b hb
      have q2 := cnt_le c hc
      have q3 : wrap64 (((cnt b : Nat) : Int) + ((cnt c : Nat) : Int)) = ((cnt (b ++ c) : Nat) : Int) := by
        rw [cnt_append]; exact w_add (by omega)
      rw [count_f hbc (by rw [o3]; clear q3; omega) (by rw [o3]; clear q3; omega), Option.bind_some, count_f hb (by clear q3; omega) (by clear q3; omega), Option.bind_some, count_f hc (by clear q3; omega) (by clear q3; omega), Option.bind_some, q3]
      clear q3
      rw [show (((cnt (b ++ c) : Nat) : Int) != ((cnt (b ++ c) : Nat) : Int)) = false from by simp]
      rw [rotuletlaw01_BitsBytes.j0, if_neg (by decide)]
      split
      · rw [rotuletlaw01_BitsBytes.j1, if_pos rfl, alive_t (by decide)]
      · rename_i h3
        by_cases h4 : a ≥ (b.length : Int)
        · rw [decide_eq_true h4, rotuletlaw01_BitsBytes.j1, if_pos rfl, alive_t (by decide)]
        · rw [decide_eq_false h4, rotuletlaw01_BitsBytes.j1, if_neg (by decide)]
          obtain ⟨a, rfl⟩ := Int.eq_ofNat_of_zero_le (a := a) (by omega)
          exact bytes_all hb o1 (by omega) (by decide)
end Go.Proofs.Ytfjcanleekmagaa.Pure
