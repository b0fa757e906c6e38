/- Proved: for all bytes (at most 4000), n and c, the law AdlerRolls answers true. -/
import Derived.Test.YtbkenaekgmbiiaaFn6
import Derived.Test.YtbkenaekgmbiiaaWin
namespace Go.Proofs.Ytbkenaekgmbiiaa.Pure
open Go.RowKit Go.Proofs.Ytbkenaekgmbiiaa.Fn Go.Proofs.YtbkenaekgmbiiaaW.PrintWords Go.Proofs.YtbkenaekgmbiiaaW.PrintLast

theorem wf_i64 {x : Int} (h : (Lit.int .i64 x).wf = true) : -9223372036854775808 ≤ x ∧ x < 9223372036854775808 := by
  simp [Lit.wf, IntKind.min, IntKind.max, IntKind.bits, IntKind.signed] at h
  omega
theorem wf_u8 {x : Int} (h : (Lit.int .u8 x).wf = true) : 0 ≤ x ∧ x ≤ 255 := by
  simp [Lit.wf, IntKind.min, IntKind.max, IntKind.bits, IntKind.signed] at h
  omega
theorem wf_u32 {x : Int} (h : (Lit.int .u32 x).wf = true) : 0 ≤ x ∧ x < 4294967296 := by
  simp [Lit.wf, IntKind.min, IntKind.max, IntKind.bits, IntKind.signed] at h
  omega

theorem sum_rep (n : Nat) (c : Int) (hc : 0 ≤ c ∧ c ≤ 255) (hn : 0 < n) (hl : n ≤ 4000) :
    adler_Roll.f (sumOf (List.replicate n c)) (n : Int) c c = some (sumOf (List.replicate n c)) := by
  obtain ⟨m, rfl⟩ : ∃ m, n = m + 1 := ⟨n - 1, by omega⟩
  have h := roll_list (n := ((m + 1 : Nat) : Int)) (List.replicate m c) c c (by simp) (by omega) hc hc
  rw [← List.replicate_succ, ← List.replicate_succ'] at h
  exact h

theorem rep_bytes (n : Nat) (c : Int) (hc : 0 ≤ c ∧ c ≤ 255) : Bytes (List.replicate n c) := by
  intro x hx
  rw [List.eq_of_mem_replicate hx]
  exact hc

theorem rolls_l1 (l : List Int) (n : Nat) (c : Int) (hb : Bytes l) (hc : 0 ≤ c ∧ c ≤ 255) (hn : 0 < n) (hl : l.length ≤ 4000) (hnl : n ≤ l.length) (d : Nat) :
    ∀ (k i : Nat) (x9 : List Int), i + d = n → d + 20000 < k → x9.length = n → x9.take i = List.replicate i c →
      rotuletlaw03_AdlerRolls.l1 k l (n : Int) c (sumOf (win l n (l.length - n))) x9 (i : Int) = some true := by
  induction d with
  | zero =>
    intro k i x9 hi hk hx ht
    obtain ⟨k, rfl⟩ : ∃ m, k = m + 1 := ⟨k - 1, by omega⟩
    have e9 : x9 = List.replicate n c := by
      rw [show i = n from by omega, List.take_of_length_le (by omega)] at ht
      exact ht
    subst e9
    have ew : win l n (l.length - n) = l.drop (l.length - n) := by
      unfold win
      rw [List.take_of_length_le (by simp; omega)]
    unfold rotuletlaw03_AdlerRolls.l1
    rw [if_neg (by omega), sum_of (by simp; omega) (rep_bytes n c hc) (by simp; omega)]
    simp only [Option.bind_some]
    rw [alive_f (by omega)]
    simp only [Option.bind_some]
    rw [if_pos trivial, w64 (by omega) (by omega), if_pos (by omega), if_pos (by omega), show ((l.length : Int) - (n : Int)).toNat = l.length - n from by omega,
      sum_of (by simp; omega) (hb.drop _) (by simp; omega)]
    simp only [Option.bind_some]
    rw [ew, if_pos rfl, sum_rep n c hc hn (by omega)]
    simp
  | succ d ih =>
    intro k i x9 hi hk hx ht
    obtain ⟨k, rfl⟩ : ∃ m, k = m + 1 := ⟨k - 1, by omega⟩
    unfold rotuletlaw03_AdlerRolls.l1
    rw [if_pos (by omega), if_pos (by omega), if_pos (by omega), w64 (by omega) (by omega), show (i : Int) + 1 = ((i + 1 : Nat) : Int) from by omega, Int.toNat_natCast]
    refine ih k (i + 1) _ (by omega) (by omega) (by simpa using hx) ?_
    rw [List.take_succ_eq_append_getElem (by simp; omega), List.getElem_set_self, List.take_set_of_le (Nat.le_refl _), ht, List.replicate_succ']

theorem rolls_l0 (l : List Int) (n : Nat) (c : Int) (hb : Bytes l) (hc : 0 ≤ c ∧ c ≤ 255) (hn : 0 < n) (hl : l.length ≤ 4000) (hnl : n ≤ l.length) (d : Nat) :
    ∀ (k j : Nat), j + n + d = l.length → d + 24002 < k →
      rotuletlaw03_AdlerRolls.l0 k l (n : Int) c (sumOf (win l n j)) ((j + n : Nat) : Int) = some true := by
  induction d with
  | zero =>
    intro k j hj hk
    obtain ⟨k, rfl⟩ : ∃ m, k = m + 1 := ⟨k - 1, by omega⟩
    unfold rotuletlaw03_AdlerRolls.l0
    rw [if_neg (by omega), if_pos (by omega), if_pos (by omega), Int.toNat_natCast, show j = l.length - n from by omega]
    have := rolls_l1 l n c hb hc hn hl hnl n k 0 (List.replicate n 0) (by omega) (by omega) (by simp) (by simp)
    exact this
  | succ d ih =>
    intro k j hj hk
    obtain ⟨k, rfl⟩ : ∃ m, k = m + 1 := ⟨k - 1, by omega⟩
    unfold rotuletlaw03_AdlerRolls.l0
    have hw : wrap64 (((j + n : Nat) : Int) - (n : Int)) = (j : Int) := by rw [w64 (by omega) (by omega)]; omega
    rw [if_pos (by omega), hw, if_pos (by omega), if_pos (by omega), if_pos (by omega), roll_any hb (by omega) (by omega)]
    simp only [Option.bind_some]
    rw [w64 (by omega) (by omega), show ((j + n : Nat) : Int) + 1 = ((j + 1 + n : Nat) : Int) from by omega]
    exact ih k (j + 1) (by omega) (by omega)

theorem AdlerRolls : rotuletlaw03_AdlerRolls.Pure := by
  intro l n c hm hl hb hn hc
  have hb := Bytes.of_wf hb
  have hn := wf_i64 hn
  have hc := wf_u8 hc
  refine ⟨30000, ?_⟩
  unfold rotuletlaw03_AdlerRolls.f
  by_cases h1 : (l.length : Int) > 4000
  · rw [if_pos h1]
    simp only [rotuletlaw03_AdlerRolls.j0]
    rw [if_pos trivial, alive_f (by omega)]
    rfl
  · rw [if_neg h1]
    by_cases h2 : n < 1
    · rw [if_pos h2]
      simp only [rotuletlaw03_AdlerRolls.j0]
      rw [if_pos trivial, alive_f (by omega)]
      rfl
    · rw [if_neg h2]
      simp only [rotuletlaw03_AdlerRolls.j0]
      by_cases h3 : n > (l.length : Int)
      · rw [if_pos (by simpa using h3), alive_f (by omega)]
        rfl
      · rw [if_neg (by simpa using h3), if_pos (by omega), if_pos (by omega), sum_of (by simp; omega) (hb.take _) (by simp; omega)]
        simp only [Option.bind_some]
        obtain ⟨m, rfl⟩ : ∃ m : Nat, n = (m : Int) := ⟨n.toNat, by omega⟩
        rw [Int.toNat_natCast]
        have := rolls_l0 l m c hb hc (by omega) (by omega) (by omega) (l.length - m) 29999 0 (by omega) (by omega)
        simp only [win, List.drop_zero, Nat.zero_add] at this
        exact this

end Go.Proofs.Ytbkenaekgmbiiaa.Pure
