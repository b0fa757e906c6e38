/- Proved: for all bytes (at most 300), a place, a length and a sum, the law AdlerFinds answers true. -/
import Derived.Test.YtbkenaekgmbiiaaFn8
import Derived.Test.YtbkenaekgmbiiaaWin
namespace Go.Proofs.Ytbkenaekgmbiiaa.Pure
open Go.RowKit Go.Proofs.Ytbkenaekgmbiiaa.Fn Go.Proofs.YtbkenaekgmbiiaaW.PrintWords Go.Proofs.YtbkenaekgmbiiaaW.PrintLast

def rotuletlaw03_AdlerFinds.Pure : Prop := ∀ (l0 : List Int) (a1_0 : Int) (a1_1 : Int) (a2 : Int), l0.length ≤ maxLen → l0.length * 1 ≤ 140737488351232 → (∀ x ∈ l0, (Lit.int .u8 x).wf = true) → (Lit.int .i64 a1_0).wf = true → (Lit.int .i64 a1_1).wf = true → (Lit.int .u32 a2).wf = true → ∃ k, rotuletlaw03_AdlerFinds.f k l0 a1_0 a1_1 a2 = some true

theorem wf_i64 {x : Int} (h : (Lit.int .i64 x).wf = true) : -9223372036854775808 ≤ x ∧ x < 9223372036854775808 := by
  simp [Lit.wf, IntKind.min, IntKind.max, IntKind.bits, IntKind.signed] at h
  omega
theorem wf_u32 {x : Int} (h : (Lit.int .u32 x).wf = true) : 0 ≤ x ∧ x < 4294967296 := by
  simp [Lit.wf, IntKind.min, IntKind.max, IntKind.bits, IntKind.signed] at h
  omega

theorem cut_win (l : List Int) (n i : Nat) : (l.take (((i + n : Nat) : Int)).toNat).drop ((i : Int)).toNat = win l n i := by
  rw [Int.toNat_natCast, Int.toNat_natCast, List.drop_take]
  unfold win
  congr 1
  omega

theorem wins_get {l : List Int} {n r : Nat} (hn : n ≤ l.length) {x : Int} (h : (wins l n)[r]? = some x) : r + n ≤ l.length ∧ x = sumOf (win l n r) := by
  unfold wins at h
  rw [List.getElem?_map] at h
  rcases Nat.lt_or_ge r (l.length + 1 - n) with hr | hr
  · rw [List.getElem?_range hr] at h
    simp at h
    exact ⟨by omega, h.symm⟩
  · rw [List.getElem?_eq_none (by simpa using hr)] at h
    simp at h
theorem wins_at {l : List Int} {n r : Nat} (h : r + n ≤ l.length) : (wins l n)[r]? = some (sumOf (win l n r)) := by
  unfold wins
  rw [List.getElem?_map, List.getElem?_range (by omega)]
  rfl
theorem allWins_eq {l : List Int} {n : Nat} (hn : n ≤ l.length) : allWins l (n : Int) = wins l n := by
  unfold allWins
  rw [if_neg (by omega), Int.toNat_natCast]
theorem wins_length (l : List Int) (n : Nat) : (wins l n).length = l.length + 1 - n := by simp [wins]

theorem finds_l0 (l : List Int) (n : Nat) (s : Int) (hl : l.length ≤ 300) (hn : n ≤ l.length) (hs : s ∉ wins l n) (d : Nat) :
    ∀ (k i : Nat), i + d = (wins l n).length → d + 100 < k → rotuletlaw03_AdlerFinds.l0 k l s (n : Int) 0 (wins l n) (i : Int) = some true := by
  have hlen := wins_length l n
  induction d with
  | zero =>
    intro k i hi hk
    obtain ⟨k, rfl⟩ : ∃ m, k = m + 1 := ⟨k - 1, by omega⟩
    unfold rotuletlaw03_AdlerFinds.l0
    rw [if_neg (by omega), alive_f (by omega)]
    simp only [Option.bind_some]
    rw [if_pos trivial, if_pos trivial, hlen, w64 (x := (l.length : Int) - (n : Int)) (by omega) (by omega), w64 (by omega) (by omega)]
    congr 1
    exact beq_iff_eq.2 (by omega)
  | succ d ih =>
    intro k i hi hk
    obtain ⟨k, rfl⟩ : ∃ m, k = m + 1 := ⟨k - 1, by omega⟩
    have hlt : i < (wins l n).length := by omega
    have hm : rd (wins l n) (i : Int) ∈ wins l n := by
      have := rd_drop (wins l n) i hlt
      exact List.mem_of_mem_drop (i := i) (by rw [this]; exact List.mem_cons_self)
    unfold rotuletlaw03_AdlerFinds.l0
    rw [if_pos (by omega), if_pos (by omega), if_neg (fun e => hs (by rw [← e]; exact hm)), w64 (by omega) (by omega), show (i : Int) + 1 = ((i + 1 : Nat) : Int) from by omega]
    exact ih k (i + 1) (by omega) (by omega)

theorem finds_j1 (l : List Int) (n : Nat) (s : Int) (hb : Bytes l) (hl : l.length ≤ 300) (hn : n ≤ l.length) (hs : 0 ≤ s ∧ s < 4294967296) (k : Nat) (hk : 20000 < k) :
    rotuletlaw03_AdlerFinds.j1 k l s (n : Int) false = some true := by
  obtain ⟨k, rfl⟩ : ∃ m, k = m + 1 := ⟨k - 1, by omega⟩
  simp only [rotuletlaw03_AdlerFinds.j1]
  rw [if_neg (by simp), find_all hb (by omega) (by omega) hs, allWins_eq hn]
  simp only [Option.bind_some]
  by_cases hm : s ∈ wins l n
  · obtain ⟨j, hj⟩ := List.getElem?_of_mem hm
    obtain ⟨r, hf, _, hr⟩ := fnd_some s (wins l n) 0 j hj
    obtain ⟨hrn, hsum⟩ := wins_get hn hr
    rw [hf]
    simp only [Nat.zero_add]
    rw [if_pos trivial, alive_f (by omega), Option.bind_some]
    have hw : wrap64 ((r : Int) + (n : Int)) = ((r + n : Nat) : Int) := by rw [w64 (by omega) (by omega)]; omega
    rw [if_pos rfl, hw, if_pos (by omega), if_pos (by omega), if_pos (by omega), cut_win, sum_of (by rw [win_length hrn]; omega) (win_bytes hb _ _) (by rw [win_length hrn]; omega)]
    simp only [Option.bind_some]
    rw [hsum]
    simp
  · rw [fnd_none s _ 0 hm]
    rw [if_neg (by simp), windows_all (n : Int) hb (by omega) (by omega), allWins_eq hn]
    simp only [Option.bind_some]
    exact finds_l0 l n s hl hn hm _ k 0 (by rw [Nat.zero_add]) (by rw [wins_length]; omega)

theorem AdlerFinds : rotuletlaw03_AdlerFinds.Pure := by
  intro l a b s hm hl hb ha hbb hs
  have hb := Bytes.of_wf hb
  have ha := wf_i64 ha
  have hbb := wf_i64 hbb
  have hs := wf_u32 hs
  refine ⟨30000, ?_⟩
  have away : ∀ x y, rotuletlaw03_AdlerFinds.j0 30000 l s true x y = some true := fun x y => by
    simp only [rotuletlaw03_AdlerFinds.j0]
    rw [if_pos trivial, alive_f (by omega)]
    rfl
  unfold rotuletlaw03_AdlerFinds.f
  by_cases h1 : (l.length : Int) > 300
  · rw [if_pos h1, away]
  · rw [if_neg h1]
    by_cases h2 : a < 0
    · rw [if_pos h2, away]
    · rw [if_neg h2]
      by_cases h3 : b < 0
      · rw [if_pos h3, away]
      · rw [if_neg h3]
        by_cases h4 : a > (l.length : Int)
        · rw [if_pos h4, away]
        · rw [if_neg h4, w64 (by omega) (by omega)]
          by_cases h5 : b > (l.length : Int) - a
          · rw [decide_eq_true h5, away]
          · rw [decide_eq_false h5]
            obtain ⟨i, rfl⟩ : ∃ i : Nat, a = (i : Int) := ⟨a.toNat, by omega⟩
            obtain ⟨n, rfl⟩ : ∃ n : Nat, b = (n : Int) := ⟨b.toNat, by omega⟩
            have hin : i + n ≤ l.length := by omega
            have hw : wrap64 ((i : Int) + (n : Int)) = ((i + n : Nat) : Int) := by rw [w64 (by omega) (by omega)]; omega
            have hsum : adler_Sum.f 29999 (win l n i) = some (sumOf (win l n i)) := sum_of (by rw [win_length hin]; omega) (win_bytes hb _ _) (by rw [win_length hin]; omega)
            simp only [rotuletlaw03_AdlerFinds.j0]
            rw [if_neg (by simp), if_pos (by omega), hw, if_pos (by omega), if_pos (by omega), cut_win, hsum]
            simp only [Option.bind_some]
            obtain ⟨r, hf, hri, hr⟩ := fnd_some _ (wins l n) 0 i (wins_at hin)
            obtain ⟨hrn, hrs⟩ := wins_get (by omega) hr
            rw [find_all hb (by omega) (by omega) (sumOf_bound _), allWins_eq (by omega), hf]
            simp only [Option.bind_some, Nat.zero_add]
            have hw2 : wrap64 ((r : Int) + (n : Int)) = ((r + n : Nat) : Int) := by rw [w64 (by omega) (by omega)]; omega
            rw [if_pos trivial, if_neg (by omega), hw2, if_pos (by omega), if_pos (by omega), if_pos (by omega), cut_win,
              sum_of (by rw [win_length hrn]; omega) (win_bytes hb _ _) (by rw [win_length hrn]; omega)]
            simp only [Option.bind_some]
            rw [← hrs, show (sumOf (win l n i) != sumOf (win l n i)) = false from by simp]
            exact finds_j1 l n s hb (by omega) (by omega) hs 29999 (by omega)

theorem AdlerFinds.walk (a0 : Option Addr) (len0 cap0 : Nat) (z0 : List Int) (a1_0 a1_1 a2 : Int) (w : World) (w0 : (a0 = none ∧ len0 = 0 ∧ cap0 = 0 ∧ z0 = []) ∨ ∃ x, a0 = some x ∧ len0 ≤ cap0 ∧ cap0 ≤ maxLen ∧ z0.length = cap0 ∧ (∀ i, i < z0.length → w.cell? (x.add i) = some (.int .u8 (z0.getD i 0))) ∧ ∀ n ∈ z0, (Lit.int .u8 n).wf = true) (y0 : len0 * 1 ≤ 140737488351232) (w1 : (Lit.int .i64 a1_0).wf = true) (w2 : (Lit.int .i64 a1_1).wf = true) (w3 : (Lit.int .u32 a2).wf = true) :
    Calls Try.prog 8 #[.slice a0 len0 cap0, .agg #[.int .i64 a1_0, .int .i64 a1_1], .int .u32 a2] w fun e w' => e = .returned (.bool true) ∧ Below w.heap.size w w' := by
  obtain ⟨l0, rfl, hr0, hm0, hw0, hc0⟩ := ReadsInt.ofRowC w0
  obtain ⟨k, h⟩ := AdlerFinds l0 a1_0 a1_1 a2 hm0 y0 hw0 w1 w2 w3
  exact rotuletlaw03_AdlerFinds.calls k _ _ l0 a1_0 a1_1 a2 true w (Kd.C_of_reads (d := (0 : Int)) (h1 := fun _ => rfl) hr0) hc0 h

end Go.Proofs.Ytbkenaekgmbiiaa.Pure
