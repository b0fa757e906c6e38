/- The sums of the windows of a list of bytes: what the program's loop and the reference's come to. -/
import Derived.Test.YtbkenaekgmbiiaaSum
namespace Go.Proofs.Ytbkenaekgmbiiaa.Pure
open Go.RowKit Go.Proofs.Ytbkenaekgmbiiaa.Fn Go.Proofs.YtbkenaekgmbiiaaW.PrintWords Go.Proofs.YtbkenaekgmbiiaaW.PrintLast

theorem w64 {x : Int} (h0 : -9223372036854775808 ≤ x) (h1 : x < 9223372036854775808) : wrap64 x = x := by unfold wrap64; omega

/-- The sum of a list of bytes. -/
def sumOf (l : List Int) : Int := enc (1 + SS l) ((l.length : Int) + TT l)
theorem sumOf_bound (l : List Int) : 0 ≤ sumOf l ∧ sumOf l < 4294967296 := enc_bound _ _
theorem sum_of {k : Nat} {l : List Int} (hk : 3 * l.length < k) (hb : Bytes l) (hn : l.length ≤ 140737488355328) : adler_Sum.f k l = some (sumOf l) := sum_f hk hb hn

/-- A window of n bytes. -/
def win (l : List Int) (n i : Nat) : List Int := (l.drop i).take n
theorem win_length {l : List Int} {n i : Nat} (h : i + n ≤ l.length) : (win l n i).length = n := by unfold win; simp; omega
theorem win_bytes {l : List Int} (h : Bytes l) (n i : Nat) : Bytes (win l n i) := (h.drop i).take n

theorem win_head {l : List Int} {n i : Nat} (h : i + (n + 1) ≤ l.length) : win l (n + 1) i = rd l i :: win l n (i + 1) := by
  unfold win
  rw [rd_drop l i (by omega), List.take_succ_cons]
theorem win_last {l : List Int} {n i : Nat} (h : i + n < l.length) : win l (n + 1) i = win l n i ++ [rd l ((i + n : Nat) : Int)] := by
  unfold win
  rw [List.take_succ_eq_append_getElem (by simp; omega)]
  congr 2
  unfold Go.Proofs.YtbkenaekgmbiiaaW.PrintWords.rd
  rw [List.getElem_drop, List.getD_eq_getElem?_getD, Int.toNat_natCast, List.getElem?_eq_getElem (by omega)]
  rfl

/-- A roll from a window c :: t to the window t ++ [d]. -/
theorem roll_list {n : Int} (t : List Int) (c d : Int) (hn : n = (t.length : Int) + 1) (hl : n < 9223372036854775808) (hc : 0 ≤ c ∧ c ≤ 255) (hd : 0 ≤ d ∧ d ≤ 255) :
    adler_Roll.f (sumOf (c :: t)) n c d = some (sumOf (t ++ [d])) := by
  rw [roll_eq (sumOf_bound _).1 (sumOf_bound _).2 hl hc hd]
  congr 1
  unfold sumOf
  rw [enc_low, enc_high, SS_append, TT_append]
  simp only [SS, TT, List.length_cons, List.length_append, List.length_nil, Int.natCast_add, Int.natCast_one, Int.zero_add, Int.natCast_zero]
  rw [show max n 0 = (t.length : Int) + 1 from by omega]
  simp only [Int.add_mul]
  refine enc_congr (by omega) (by omega)

theorem roll_win {l : List Int} {n i : Nat} (hb : Bytes l) (hn : 0 < n) (h : i + n < l.length) (hl : l.length ≤ 140737488355328) :
    adler_Roll.f (sumOf (win l n i)) (n : Int) (rd l (i : Int)) (rd l ((i + n : Nat) : Int)) = some (sumOf (win l n (i + 1))) := by
  obtain ⟨n, rfl⟩ : ∃ m, n = m + 1 := ⟨n - 1, by omega⟩
  rw [win_head (by omega), win_last (i := i + 1) (by omega)]
  rw [roll_list (win l n (i + 1)) _ _ (by rw [win_length (by omega)]; omega) (by omega) (hb.rd _) (hb.rd _)]
  rw [show i + 1 + n = i + (n + 1) from by omega]

/-- A roll of windows of no bytes. -/
theorem roll_zero {l : List Int} {i : Nat} (hb : Bytes l) :
    adler_Roll.f (sumOf (win l 0 i)) 0 (rd l (i : Int)) (rd l (i : Int)) = some (sumOf (win l 0 (i + 1))) := by
  have := hb.rd (i : Int)
  rw [roll_eq (sumOf_bound _).1 (sumOf_bound _).2 (by omega) (by omega) (by omega)]
  congr 1
  unfold sumOf win
  rw [enc_low, enc_high]
  simp only [List.take_zero, SS, TT, List.length_nil]
  rw [show max (0 : Int) 0 = 0 from rfl, Int.zero_mul]
  refine enc_congr (by omega) (by omega)

theorem roll_any {l : List Int} {n i : Nat} (hb : Bytes l) (h : i + n < l.length) (hl : l.length ≤ 140737488355328) :
    adler_Roll.f (sumOf (win l n i)) (n : Int) (rd l (i : Int)) (rd l ((i + n : Nat) : Int)) = some (sumOf (win l n (i + 1))) := by
  rcases Nat.eq_zero_or_pos n with rfl | hn
  · exact roll_zero hb
  · exact roll_win hb hn h hl

/-! The reference. -/
theorem ref_l0 (l : List Int) (hb : Bytes l) (hl : l.length ≤ 140737488355328) (d : Nat) :
    ∀ (k i : Nat) (a b : Int), i + d = l.length → d < k → 0 ≤ a → a < 65521 → 0 ≤ b → b < 65521 →
      rotuletref03_More.l0 k l a b (i : Int) = some (enc (a + SS (l.drop i)) (b + (d : Int) * a + TT (l.drop i))) := by
  induction d with
  | zero =>
    intro k i a b hi hk h0 h1 h2 h3
    obtain ⟨k, rfl⟩ : ∃ m, k = m + 1 := ⟨k - 1, by omega⟩
    unfold rotuletref03_More.l0
    rw [if_neg (by omega), List.drop_of_length_le (by omega)]
    congr 1
    simp only [SS, TT]
    unfold enc
    omega
  | succ d ih =>
    intro k i a b hi hk h0 h1 h2 h3
    obtain ⟨k, rfl⟩ : ∃ m, k = m + 1 := ⟨k - 1, by omega⟩
    have hr := hb.rd (i : Int)
    unfold rotuletref03_More.l0
    rw [if_pos (by omega), if_pos (by omega), w64 (by omega) (by omega), show (i : Int) + 1 = ((i + 1 : Nat) : Int) from by omega,
      ih k (i + 1) _ _ (by omega) (by omega) (by omega) (by omega) (by omega) (by omega)]
    congr 1
    have e1 : (a + rd l i % 4294967296) % 4294967296 % 65521 = (a + rd l i) % 65521 := by omega
    rw [e1, rd_drop l i (by omega)]
    simp only [SS, TT, List.length_drop]
    rw [show ((l.length - (i + 1) : Nat) : Int) = (d : Int) from by omega]
    have e2 := mod_mul (d : Int) (a + rd l i)
    rw [Int.mul_add] at e2
    simp only [Int.natCast_add, Int.add_mul]
    refine enc_congr (by omega) (by omega)

theorem ref_more {k : Nat} {s : Int} {l : List Int} (hk : l.length < k) (hb : Bytes l) (hn : l.length ≤ 140737488355328) (h0 : 0 ≤ s) (h1 : s < 4294967296) :
    rotuletref03_More.f k s l = some (enc (s % 65536 + SS l) (s / 65536 + (l.length : Int) * (s % 65536) + TT l)) := by
  unfold rotuletref03_More.f
  rw [tmod_in h0, tmod_in (by omega), tdiv_in h0]
  have := ref_l0 l hb hn l.length k 0 (s % 65536 % 65521) (s / 65536 % 4294967296 % 65521) (by omega) hk (by omega) (by omega) (by omega) (by omega)
  simp only [Int.natCast_zero, List.drop_zero] at this
  rw [this]
  congr 1
  have := mod_mul (l.length : Int) (s % 65536)
  refine enc_congr (by omega) (by omega)

theorem ref_sum {k : Nat} {l : List Int} (hk : l.length < k) (hb : Bytes l) (hn : l.length ≤ 140737488355328) : rotuletref03_Sum.f k l = some (sumOf l) := by
  unfold rotuletref03_Sum.f
  rw [ref_more hk hb hn (by omega) (by omega)]
  unfold sumOf
  simp

/-! All windows. -/
def wins (l : List Int) (n : Nat) : List Int := (List.range (l.length + 1 - n)).map fun i => sumOf (win l n i)
def some_wins (l : List Int) (n j : Nat) : List Int := (List.range j).map fun i => sumOf (win l n i)
theorem some_wins_length (l : List Int) (n j : Nat) : (some_wins l n j).length = j := by simp [some_wins]
theorem some_wins_succ (l : List Int) (n j : Nat) : some_wins l n (j + 1) = some_wins l n j ++ [sumOf (win l n j)] := by
  unfold some_wins
  rw [List.range_succ, List.map_append]
  rfl
theorem some_wins_rd (l : List Int) {n j i : Nat} (h : i < j) : rd (some_wins l n j) (i : Int) = sumOf (win l n i) := by
  unfold Go.Proofs.YtbkenaekgmbiiaaW.PrintWords.rd some_wins
  rw [List.getD_eq_getElem?_getD, Int.toNat_natCast]
  simp [h]

theorem windows_l0 (l : List Int) (n : Nat) (hb : Bytes l) (hl : l.length ≤ 4000) (hn : n ≤ l.length) (d : Nat) :
    ∀ (k j : Nat), n + j + d = l.length → d < k → adler_Windows.l0 k l (n : Int) (some_wins l n (j + 1)) ((n + j : Nat) : Int) = some (wins l n) := by
  induction d with
  | zero =>
    intro k j hj hk
    obtain ⟨k, rfl⟩ : ∃ m, k = m + 1 := ⟨k - 1, by omega⟩
    unfold adler_Windows.l0
    rw [if_neg (by omega)]
    unfold wins
    rw [show l.length + 1 - n = j + 1 from by omega]
    rfl
  | succ d ih =>
    intro k j hj hk
    obtain ⟨k, rfl⟩ : ∃ m, k = m + 1 := ⟨k - 1, by omega⟩
    unfold adler_Windows.l0
    have hw : wrap64 (((n + j : Nat) : Int) - (n : Int)) = (j : Int) := by rw [w64 (by omega) (by omega)]; omega
    rw [if_pos (by omega), hw, some_wins_length, if_pos (by omega), if_pos (by omega), if_pos (by omega), if_pos (by omega), some_wins_rd l (by omega),
      show ((n + j : Nat) : Int) = ((j + n : Nat) : Int) from by omega, roll_any hb (by omega) (by omega)]
    simp only [Option.bind_some]
    rw [if_pos (by omega), w64 (by omega) (by omega), ← some_wins_succ, show ((j + n : Nat) : Int) + 1 = ((n + (j + 1) : Nat) : Int) from by omega]
    exact ih k (j + 1) (by omega) (by omega)

theorem windows_f {k : Nat} {l : List Int} {n : Nat} (hb : Bytes l) (hl : l.length ≤ 4000) (hn : n ≤ l.length) (hk : 4 * l.length + 2 < k) :
    adler_Windows.f k l (n : Int) = some (wins l n) := by
  obtain ⟨k, rfl⟩ : ∃ m, k = m + 1 := ⟨k - 1, by omega⟩
  unfold adler_Windows.f
  rw [if_neg (by omega)]
  simp only [adler_Windows.j0]
  rw [if_neg (by simp; omega), if_pos (by omega), if_pos (by omega), Int.toNat_natCast, sum_of (by simp; omega) (hb.take n) (by simp; omega)]
  simp only [Option.bind_some]
  have h := windows_l0 l n hb hl hn (l.length - n) k 0 (by omega) (by omega)
  simp only [some_wins, Nat.zero_add, List.range_one, List.map_cons, List.map_nil, Nat.add_zero] at h
  rw [← h]
  unfold win
  simp

theorem windows_no {k : Nat} {l : List Int} {n : Int} (h : n < 0 ∨ (l.length : Int) < n) : adler_Windows.f (k + 1) l n = some [] := by
  unfold adler_Windows.f
  by_cases h0 : n < 0
  · rw [if_pos h0]
    simp only [adler_Windows.j0]
    rw [if_pos trivial]
  · rw [if_neg h0]
    simp only [adler_Windows.j0]
    rw [if_pos (by simp; omega)]

theorem ref_windows_l0 (l : List Int) (n : Nat) (hb : Bytes l) (hl : l.length ≤ 4000) (hn : n ≤ l.length) (d : Nat) :
    ∀ (k j : Nat), n + j + d = l.length + 1 → d + l.length < k → rotuletref03_Windows.l0 k l (n : Int) (some_wins l n j) (j : Int) = some (wins l n) := by
  induction d with
  | zero =>
    intro k j hj hk
    obtain ⟨k, rfl⟩ : ∃ m, k = m + 1 := ⟨k - 1, by omega⟩
    unfold rotuletref03_Windows.l0
    rw [w64 (by omega) (by omega), if_neg (by omega)]
    unfold wins
    rw [show l.length + 1 - n = j from by omega]
    rfl
  | succ d ih =>
    intro k j hj hk
    obtain ⟨k, rfl⟩ : ∃ m, k = m + 1 := ⟨k - 1, by omega⟩
    unfold rotuletref03_Windows.l0
    have e : (l.take (((j : Int) + (n : Int)) : Int).toNat).drop ((j : Int) : Int).toNat = win l n j := by
      rw [show ((j : Int) + (n : Int)).toNat = j + n from by omega, Int.toNat_natCast, List.drop_take]
      unfold win
      congr 1
      omega
    rw [w64 (by omega) (by omega), if_pos (by omega), if_pos (by omega), if_pos (by omega), e, ref_sum (by rw [win_length (by omega)]; omega) (win_bytes hb _ _) (by rw [win_length (by omega)]; omega)]
    simp only [Option.bind_some]
    rw [some_wins_length, if_pos (by omega), w64 (by omega) (by omega), ← some_wins_succ, show (j : Int) + 1 = ((j + 1 : Nat) : Int) from by omega]
    exact ih k (j + 1) (by omega) (by omega)

theorem ref_windows_f {k : Nat} {l : List Int} {n : Nat} (hb : Bytes l) (hl : l.length ≤ 4000) (hn : n ≤ l.length) (hk : 4 * l.length + 4 < k) :
    rotuletref03_Windows.f k l (n : Int) = some (wins l n) := by
  obtain ⟨k, rfl⟩ : ∃ m, k = m + 1 := ⟨k - 1, by omega⟩
  unfold rotuletref03_Windows.f
  rw [if_neg (by omega)]
  simp only [rotuletref03_Windows.j0]
  rw [if_neg (by simp; omega)]
  exact ref_windows_l0 l n hb hl hn (l.length + 1 - n) k 0 (by omega) (by omega)

theorem ref_windows_no {k : Nat} {l : List Int} {n : Int} (h : n < 0 ∨ (l.length : Int) < n) : rotuletref03_Windows.f (k + 1) l n = some [] := by
  unfold rotuletref03_Windows.f
  by_cases h0 : n < 0
  · rw [if_pos h0]
    simp only [rotuletref03_Windows.j0]
    rw [if_pos trivial]
  · rw [if_neg h0]
    simp only [rotuletref03_Windows.j0]
    rw [if_pos (by simp; omega)]

/-- All windows, or none. -/
def allWins (l : List Int) (n : Int) : List Int := if n < 0 ∨ (l.length : Int) < n then [] else wins l n.toNat
theorem allWins_length (l : List Int) (n : Int) : (allWins l n).length ≤ l.length + 1 := by
  unfold allWins
  split
  · simp
  · simp [wins]
theorem windows_all {k : Nat} {l : List Int} (n : Int) (hb : Bytes l) (hl : l.length ≤ 4000) (hk : 4 * l.length + 4 < k) : adler_Windows.f k l n = some (allWins l n) := by
  unfold allWins
  split
  · next h =>
    obtain ⟨k, rfl⟩ : ∃ m, k = m + 1 := ⟨k - 1, by omega⟩
    exact windows_no h
  · next h =>
    rw [show n = (n.toNat : Int) from by omega]
    exact windows_f hb hl (by omega) (by omega)
theorem ref_windows_all {k : Nat} {l : List Int} (n : Int) (hb : Bytes l) (hl : l.length ≤ 4000) (hk : 4 * l.length + 4 < k) : rotuletref03_Windows.f k l n = some (allWins l n) := by
  unfold allWins
  split
  · next h =>
    obtain ⟨k, rfl⟩ : ∃ m, k = m + 1 := ⟨k - 1, by omega⟩
    exact ref_windows_no h
  · next h =>
    rw [show n = (n.toNat : Int) from by omega]
    exact ref_windows_f hb hl (by omega) (by omega)

/-! The first that has a sum. -/
def fnd : List Int → Int → Nat → Int × Bool
  | [], _, _ => (0, false)
  | w :: t, s, i => if w = s then ((i : Int), true) else fnd t s (i + 1)

theorem find_l0 (ws : List Int) (s : Int) (hs : 0 ≤ s ∧ s < 4294967296) (hw : ∀ x ∈ ws, 0 ≤ x ∧ x < 4294967296) (hl : ws.length ≤ 140737488355328) (d : Nat) :
    ∀ (k i : Nat), i + d = ws.length → d < k → adler_Find.l0 k s ws (ws.length : Int) (i : Int) = some (fnd (ws.drop i) s i) := by
  induction d with
  | zero =>
    intro k i hi hk
    obtain ⟨k, rfl⟩ : ∃ m, k = m + 1 := ⟨k - 1, by omega⟩
    unfold adler_Find.l0
    rw [if_neg (by omega), List.drop_of_length_le (by omega)]
    rfl
  | succ d ih =>
    intro k i hi hk
    obtain ⟨k, rfl⟩ : ∃ m, k = m + 1 := ⟨k - 1, by omega⟩
    have hlt : i < ws.length := by omega
    have hm : rd ws (i : Int) ∈ ws := by
      have := rd_drop ws i hlt
      exact List.mem_of_mem_drop (i := i) (by rw [this]; exact List.mem_cons_self)
    unfold adler_Find.l0
    rw [if_pos (by omega), if_pos (by omega), if_pos (by omega), of_eq (hw _ hm).1 (hw _ hm).2]
    simp only [Option.bind_some]
    rw [of_eq hs.1 hs.2]
    simp only [Option.bind_some]
    rw [w64 (by omega) (by omega), rd_drop ws i hlt, show (i : Int) + 1 = ((i + 1 : Nat) : Int) from by omega, ih k (i + 1) (by omega) (by omega)]
    rw [fnd]
    by_cases e : rd ws (i : Int) = s
    · rw [e, if_pos (by simp), if_pos rfl, if_pos rfl]
    · simp only [if_neg e, ite_self]

theorem ref_find_l0 (ws : List Int) (s : Int) (hl : ws.length ≤ 140737488355328) (d : Nat) :
    ∀ (k i : Nat), i + d = ws.length → d < k → rotuletref03_Find.l0 k s ws (i : Int) = some (fnd (ws.drop i) s i) := by
  induction d with
  | zero =>
    intro k i hi hk
    obtain ⟨k, rfl⟩ : ∃ m, k = m + 1 := ⟨k - 1, by omega⟩
    unfold rotuletref03_Find.l0
    rw [if_neg (by omega), List.drop_of_length_le (by omega)]
    rfl
  | succ d ih =>
    intro k i hi hk
    obtain ⟨k, rfl⟩ : ∃ m, k = m + 1 := ⟨k - 1, by omega⟩
    have hlt : i < ws.length := by omega
    unfold rotuletref03_Find.l0
    rw [if_pos (by omega), if_pos (by omega), w64 (by omega) (by omega), rd_drop ws i hlt, show (i : Int) + 1 = ((i + 1 : Nat) : Int) from by omega, ih k (i + 1) (by omega) (by omega)]
    rw [fnd]
    by_cases e : rd ws (i : Int) = s
    · rw [if_pos e, if_pos e]
    · rw [if_neg e, if_neg e]

theorem allWins_bound {l : List Int} {n : Int} : ∀ x ∈ allWins l n, 0 ≤ x ∧ x < 4294967296 := by
  intro x hx
  unfold allWins at hx
  split at hx
  · simp at hx
  · unfold wins at hx
    obtain ⟨i, _, rfl⟩ := List.mem_map.1 hx
    exact sumOf_bound _

theorem find_all {k : Nat} {l : List Int} {n s : Int} (hb : Bytes l) (hl : l.length ≤ 4000) (hk : 4 * l.length + 4 < k) (hs : 0 ≤ s ∧ s < 4294967296) :
    adler_Find.f k l s n = some (fnd (allWins l n) s 0) := by
  unfold adler_Find.f
  rw [windows_all n hb hl hk]
  simp only [Option.bind_some]
  have := allWins_length l n
  exact find_l0 (allWins l n) s hs allWins_bound (by omega) (allWins l n).length k 0 (by omega) (by omega)
theorem ref_find_all {k : Nat} {l : List Int} {n s : Int} (hb : Bytes l) (hl : l.length ≤ 4000) (hk : 4 * l.length + 4 < k) :
    rotuletref03_Find.f k l s n = some (fnd (allWins l n) s 0) := by
  unfold rotuletref03_Find.f
  rw [ref_windows_all n hb hl hk]
  simp only [Option.bind_some]
  have := allWins_length l n
  exact ref_find_l0 (allWins l n) s (by omega) (allWins l n).length k 0 (by omega) (by omega)

/-- What is found is there, the first. -/
theorem fnd_some (s : Int) : ∀ (ws : List Int) (i j : Nat), ws[j]? = some s → ∃ r : Nat, fnd ws s i = (((i + r : Nat) : Int), true) ∧ r ≤ j ∧ ws[r]? = some s
  | [], i, j, h => by simp at h
  | w :: t, i, j, h => by
    by_cases e : w = s
    · subst e
      exact ⟨0, by simp [fnd], by omega, rfl⟩
    · cases j with
      | zero => simp at h; exact absurd h e
      | succ j =>
        simp at h
        obtain ⟨r, h1, h2, h3⟩ := fnd_some s t (i + 1) j h
        refine ⟨r + 1, ?_, by omega, by simpa using h3⟩
        unfold fnd
        rw [if_neg e, h1]
        congr 1
        omega
theorem fnd_none (s : Int) : ∀ (ws : List Int) (i : Nat), s ∉ ws → fnd ws s i = (0, false)
  | [], i, _ => rfl
  | w :: t, i, h => by
    unfold fnd
    rw [if_neg (fun e => h (by rw [e]; exact List.mem_cons_self)), fnd_none s t (i + 1) (fun e => h (List.mem_cons_of_mem _ e))]

end Go.Proofs.Ytbkenaekgmbiiaa.Pure
