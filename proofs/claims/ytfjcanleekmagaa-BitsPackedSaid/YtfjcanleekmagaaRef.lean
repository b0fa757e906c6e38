/- What the plain reader's rows of digits, bytes of digits, Put, Extend, Reverse and Count come to. No condition beyond the ranges that stand in each lemma. -/
import Derived.Test.YtfjcanleekmagaaTurn
namespace Go.Proofs.Ytfjcanleekmagaa.Pure
open Go.RowKit Go.Proofs.Ytfjcanleekmagaa.Fn Go.Proofs.YtfjcanleekmagaaW.PrintWords Go.Proofs.YtfjcanleekmagaaW.PrintLast Go.Proofs.YtfjcanleekmagaaW.PrintMore

/-- n bits from a on, as a list of numbers. -/
def seg (f : Nat → Bool) (a : Nat) : Nat → List Int
  | 0 => []
  | n + 1 => (((f a).toNat : Nat) : Int) :: seg f (a + 1) n
theorem seg_len (f : Nat → Bool) : ∀ n a, (seg f a n).length = n
  | 0, _ => rfl
  | n + 1, a => by rw [seg, List.length_cons, seg_len f n]
theorem seg_snoc (f : Nat → Bool) : ∀ n a, seg f a (n + 1) = seg f a n ++ [(((f (a + n)).toNat : Nat) : Int)]
  | 0, a => rfl
  | n + 1, a => by rw [seg, seg_snoc f n (a + 1), seg, List.cons_append, show a + 1 + n = a + (n + 1) from by omega]
theorem seg_get (f : Nat → Bool) : ∀ n a j, (seg f a n)[j]? = if j < n then some (((f (a + j)).toNat : Nat) : Int) else none
  | 0, _, j => by simp [seg]
  | n + 1, a, 0 => by simp [seg]
  | n + 1, a, j + 1 => by
    rw [seg, List.getElem?_cons_succ, seg_get f n (a + 1) j, show a + 1 + j = a + (j + 1) from by omega]
    by_cases h : j < n
    · rw [if_pos h, if_pos (by omega)]
    · rw [if_neg h, if_neg (by omega)]
theorem seg_congr {f g : Nat → Bool} : ∀ n a b, (∀ j, j < n → f (a + j) = g (b + j)) → seg f a n = seg g b n
  | 0, _, _, _ => rfl
  | n + 1, a, b, h => by
    rw [seg, seg, seg_congr n (a + 1) (b + 1) (fun j hj => by
      have := h (j + 1) (by omega)
      rwa [show a + (j + 1) = a + 1 + j from by omega, show b + (j + 1) = b + 1 + j from by omega] at this)]
    have := h 0 (by omega)
    rw [Nat.add_zero, Nat.add_zero] at this
    rw [this]
/-- The digit j of a list is one. -/
def at1 (l : List Int) (j : Nat) : Bool := l.getD j 0 == 1
def Dig (l : List Int) : Prop := ∀ j, l.getD j 0 = (((at1 l j).toNat : Nat) : Int)
theorem dig_mem {l : List Int} (h : ∀ x ∈ l, x = 0 ∨ x = 1) : Dig l := by
  intro j
  unfold at1
  by_cases hj : j < l.length
  · have := h (l[j]) (List.getElem_mem hj)
    rw [List.getD_eq_getElem?_getD, List.getElem?_eq_getElem hj, Option.getD_some]
    rcases this with e | e <;> rw [e] <;> rfl
  · rw [List.getD_eq_getElem?_getD, List.getElem?_eq_none (by omega)]; rfl
theorem seg_mem (f : Nat → Bool) : ∀ n a x, x ∈ seg f a n → x = 0 ∨ x = 1
  | 0, _, _, h => by cases h
  | n + 1, a, x, h => by
    rw [seg] at h
    rcases List.mem_cons.mp h with e | e
    · rw [e]; cases f a
      · exact Or.inl rfl
      · exact Or.inr rfl
    · exact seg_mem f n (a + 1) x e
theorem at1_seg (f : Nat → Bool) (a n j : Nat) : at1 (seg f a n) j = (decide (j < n) && f (a + j)) := by
  unfold at1
  rw [List.getD_eq_getElem?_getD, seg_get]
  by_cases h : j < n
  · rw [if_pos h, decide_eq_true h, Option.getD_some]
    cases f (a + j) <;> rfl
  · rw [if_neg h, decide_eq_false h]; rfl

/-! Row. -/
theorem row_l0 {l : List Int} (hl : Byt l) (hL : l.length ≤ 10000) : ∀ (d k m : Nat), d + 10 < k → m + d = 8 * l.length →
    rotuletref01_Row.l0 k l (seg (bitAt l) 0 m) (m : Int) = some (seg (bitAt l) 0 (8 * l.length)) := by
  have e8 : wrap64 (8 * (l.length : Int)) = ((8 * l.length : Nat) : Int) := by rw [w64 (by omega) (by omega)]; omega
  have hL' : l.length ≤ 1000000 := by clear e8; omega
  intro d
  induction d with
  | zero =>
    intro k m hk hm
    obtain ⟨k, rfl⟩ : ∃ j, k = j + 1 := ⟨k - 1, by clear e8; omega⟩
    have hm : m = 8 * l.length := hm
    subst hm
    rw [rotuletref01_Row.l0, e8, if_neg (int_irrefl _)]
  | succ d ih =>
    intro k m hk hm
    obtain ⟨k, rfl⟩ : ∃ j, k = j + 1 := ⟨k - 1, by clear e8; omega⟩
    have o1 : m < 8 * l.length := by clear e8; omega
    have o2 : 8 < k := by clear e8; omega
    have o3 : m < 17592186044416 := by clear e8; omega
    have o4 : m < 100000000 := by clear e8; omega
    have o5 : d + 10 < k := by clear e8; omega
    have o6 : m + 1 + d = 8 * l.length := by clear e8; omega
    have e := seg_snoc (bitAt l) m 0
    rw [Nat.zero_add] at e
    rw [rotuletref01_Row.l0, e8, if_pos (nat_lt o1), bit_f hl hL' o2 o1, Option.bind_some, seg_len, if_pos o3, ← e, w_succ o4]
    exact ih k (m + 1) o5 o6
theorem row_f {l : List Int} (hl : Byt l) (hL : l.length ≤ 10000) {k : Nat} (hk : 8 * l.length + 10 < k) : rotuletref01_Row.f k l = some (seg (bitAt l) 0 (8 * l.length)) := by
  unfold rotuletref01_Row.f
  exact row_l0 hl hL (8 * l.length) k 0 hk (Nat.zero_add _)

/-! Digits. -/
theorem digits_l0 {n : Nat} (hn : n ≤ 64) : ∀ (d k v i : Nat) (x : List Int), d < k → i + d = n → v < 18446744073709551616 → x.length ≤ i →
    rotuletref01_Digits.l0 k (v : Int) (n : Int) x (i : Int) = some (seg (fun j => v.testBit (d - 1 - j)) 0 d ++ x) := by
  intro d
  induction d with
  | zero =>
    intro k v i x hk hi _ _
    obtain ⟨k, rfl⟩ : ∃ j, k = j + 1 := ⟨k - 1, by omega⟩
    have hi : i = n := hi
    subst hi
    rw [rotuletref01_Digits.l0, if_neg (int_irrefl _)]; rfl
  | succ d ih =>
    intro k v i x hk hi hv hx
    obtain ⟨k, rfl⟩ : ∃ j, k = j + 1 := ⟨k - 1, by omega⟩
    have o1 : i < n := by omega
    have o2 : i < 100000000 := by omega
    have o3 : d < k := by omega
    have o4 : i + 1 + d = n := by omega
    have o5 : v / 2 < 18446744073709551616 := by omega
    have o6 : ([((v % 2 : Nat) : Int)] ++ x).length ≤ i + 1 := by rw [List.length_append, List.length_singleton]; omega
    have o7 : [((v % 2 : Nat) : Int)].length + x.length < 17592186044416 := by rw [List.length_singleton]; omega
    have e1 : wrap64 (Int.tmod (v : Int) 2) = ((v % 2 : Nat) : Int) := by
      rw [show Int.tmod (v : Int) 2 = ((v % 2 : Nat) : Int) from tmod_nat v 2, w64 (by omega) (by omega)]
    have e2 : IntKind.u64.wrap (Int.tdiv (v : Int) 2) = ((v / 2 : Nat) : Int) := by
      rw [show Int.tdiv (v : Int) 2 = ((v / 2 : Nat) : Int) from tdiv_nat v 2, u64_eq]; omega
    rw [rotuletref01_Digits.l0, if_pos (nat_lt o1), Option.bind_some, e1, if_pos o7, e2, w_succ o2, ih k (v / 2) (i + 1) _ o3 o4 o5 o6]
    rw [seg_snoc, List.append_assoc]
    have h1 : seg (fun j => (v / 2).testBit (d - 1 - j)) 0 d = seg (fun j => v.testBit (d + 1 - 1 - j)) 0 d := by
      apply seg_congr; intro j hj
      show (v / 2).testBit (d - 1 - (0 + j)) = v.testBit (d + 1 - 1 - (0 + j))
      rw [show d + 1 - 1 - (0 + j) = (d - 1 - (0 + j)) + 1 from by omega, Nat.testBit_succ]
    have h2 : ((v % 2 : Nat) : Int) = (((v.testBit (d + 1 - 1 - (0 + d))).toNat : Nat) : Int) := by
      rw [show d + 1 - 1 - (0 + d) = 0 from by omega, Nat.testBit_zero]
      by_cases h : v % 2 = 1
      · rw [h]; rfl
      · rw [show v % 2 = 0 from by omega]; rfl
    rw [h1, h2]
/-- The lowest n bits of v, the highest first. -/
def digs (v n : Nat) : List Int := seg (fun j => v.testBit (n - 1 - j)) 0 n
theorem digits_f {v n k : Nat} (hn : n ≤ 64) (hk : n < k) (hv : v < 18446744073709551616) : rotuletref01_Digits.f k (v : Int) (n : Int) = some (digs v n) := by
  unfold rotuletref01_Digits.f
  have := digits_l0 hn n k v 0 [] hk (Nat.zero_add _) hv (Nat.le_refl _)
  rw [List.append_nil] at this
  exact this
theorem at1_digs (v n j : Nat) : at1 (digs v n) j = (decide (j < n) && v.testBit (n - 1 - j)) := by
  unfold digs; rw [at1_seg, Nat.zero_add]

/-! Bytes. -/
def byts (g : Nat → Bool) (a : Nat) : Nat → List Int
  | 0 => []
  | n + 1 => ((num g a 8 : Nat) : Int) :: byts g (a + 8) n
theorem byts_len (g : Nat → Bool) : ∀ n a, (byts g a n).length = n
  | 0, _ => rfl
  | n + 1, a => by rw [byts, List.length_cons, byts_len g n]
theorem byts_get (g : Nat → Bool) : ∀ n a i, (byts g a n)[i]? = if i < n then some ((num g (a + 8 * i) 8 : Nat) : Int) else none
  | 0, _, i => by simp [byts]
  | n + 1, a, 0 => by simp [byts]
  | n + 1, a, i + 1 => by
    rw [byts, List.getElem?_cons_succ, byts_get g n (a + 8) i, show a + 8 + 8 * i = a + 8 * (i + 1) from by omega]
    by_cases h : i < n
    · rw [if_pos h, if_pos (by omega)]
    · rw [if_neg h, if_neg (by omega)]
theorem byts_byt (g : Nat → Bool) : ∀ n a, Byt (byts g a n)
  | 0, _ => fun _ h => by cases h
  | n + 1, a => fun x h => by
    rw [byts] at h
    rcases List.mem_cons.mp h with e | e
    · have := num_lt g a 8
      rw [e]; omega
    · exact byts_byt g n (a + 8) x e
theorem byts_bit (g : Nat → Bool) (n j : Nat) : bitAt (byts g 0 n) j = (decide (j / 8 < n) && g j) := by
  unfold bitAt
  rw [List.getD_eq_getElem?_getD, byts_get]
  by_cases h : j / 8 < n
  · rw [if_pos h, Option.getD_some, Int.toNat_natCast, num_bit, decide_eq_true h, decide_eq_true (by omega)]
    rw [show 0 + 8 * (j / 8) + (8 - 1 - (7 - j % 8)) = j from by omega]
  · rw [if_neg h, decide_eq_false h]; simp
theorem bytesof_l1 {l : List Int} (hd : Dig l) {a : Nat} (ha : a ≤ 100000) (x : List Int) : ∀ (d k m : Nat), d < k → m + d = 8 →
    rotuletref01_Bytes.l1 k l x (a : Int) ((num (at1 l) a m : Nat) : Int) (m : Int) =
      if x.length < 140737488355328 then rotuletref01_Bytes.l0 (k - d - 1) l (x ++ [((num (at1 l) a 8 : Nat) : Int)]) ((a + 8 : Nat) : Int) else none := by
  intro d
  induction d with
  | zero =>
    intro k m hk hm
    obtain ⟨k, rfl⟩ : ∃ j, k = j + 1 := ⟨k - 1, by omega⟩
    have hm : m = 8 := hm
    subst hm
    have h1 := num_lt (at1 l) a 8
    have e1 : ((num (at1 l) a 8 : Nat) : Int) % 256 = ((num (at1 l) a 8 : Nat) : Int) := by omega
    have e2 := w_add (n := a) (t := 8) (by omega)
    rw [rotuletref01_Bytes.l1, if_neg (by decide), e1]
    rw [show ((8 : Nat) : Int) = 8 from rfl] at e2
    rw [e2]; rfl
  | succ d ih =>
    intro k m hk hm
    obtain ⟨k, rfl⟩ : ∃ j, k = j + 1 := ⟨k - 1, by omega⟩
    have o1 : (m : Int) < 8 := by omega
    have o2 : a + m ≤ 100000000 := by omega
    have o3 : m < 100000000 := by omega
    have o4 : d < k := by omega
    have o5 : m + 1 + d = 8 := by omega
    have h1 := num_lt (at1 l) a m
    have h2 : num (at1 l) a m < 2 ^ 8 := Nat.lt_of_lt_of_le h1 (Nat.pow_le_pow_right (by decide) (by omega))
    have hb : (at1 l (a + m)).toNat ≤ 1 := by cases at1 l (a + m) <;> decide
    have e1 : wrap64 (2 * ((num (at1 l) a m : Nat) : Int)) = ((2 * num (at1 l) a m : Nat) : Int) := by rw [w64 (by omega) (by omega)]; omega
    have e2 : wrap64 (((2 * num (at1 l) a m : Nat) : Int) + (((at1 l (a + m)).toNat : Nat) : Int)) = ((num (at1 l) a (m + 1) : Nat) : Int) := w_add (by clear e1; omega)
    have e3 : rd l ((a + m : Nat) : Int) = (((at1 l (a + m)).toNat : Nat) : Int) := by
      unfold rd; rw [Int.toNat_natCast]; exact hd (a + m)
    rw [rotuletref01_Bytes.l1, if_pos o1, w_add o2, e1, w_succ o3]
    have hrest : rotuletref01_Bytes.l1 k l x (a : Int) ((num (at1 l) a (m + 1) : Nat) : Int) ((m + 1 : Nat) : Int) =
      if x.length < 140737488355328 then rotuletref01_Bytes.l0 (k + 1 - (d + 1) - 1) l (x ++ [((num (at1 l) a 8 : Nat) : Int)]) ((a + 8 : Nat) : Int) else none := by
      rw [ih k (m + 1) o4 o5, show k + 1 - (d + 1) - 1 = k - d - 1 from by clear e1 e2; omega]
    by_cases h : a + m < l.length
    · rw [if_pos (nat_lt h), if_pos (nat_nn _), e3, e2]
      exact hrest
    · have h0 : at1 l (a + m) = false := by
        unfold at1
        rw [List.getD_eq_getElem?_getD, List.getElem?_eq_none (by clear e1 e2; omega)]; rfl
      have e4 : num (at1 l) a (m + 1) = 2 * num (at1 l) a m := by rw [num, h0]; rfl
      rw [e4] at hrest
      rw [if_neg (fun hh => h (by clear e1 e2; omega))]
      exact hrest
theorem bytesof_l0 {l : List Int} (hd : Dig l) (hL : l.length ≤ 90000) : ∀ (n k a : Nat) (x : List Int), 12 * n < k → l.length ≤ a + 8 * n → a + 8 * n < l.length + 8 → x.length + n ≤ 100000 →
    rotuletref01_Bytes.l0 k l x (a : Int) = some (x ++ byts (at1 l) a n) := by
  intro n
  induction n with
  | zero =>
    intro k a x hk h1 h2 hx
    obtain ⟨k, rfl⟩ : ∃ j, k = j + 1 := ⟨k - 1, by omega⟩
    rw [rotuletref01_Bytes.l0, if_neg (by omega), byts, List.append_nil]
  | succ n ih =>
    intro k a x hk h1 h2 hx
    obtain ⟨k, rfl⟩ : ∃ j, k = j + 1 := ⟨k - 1, by omega⟩
    have h3 := bytesof_l1 hd (a := a) (by omega) x 8 k 0 (by omega) rfl
    have h3 : rotuletref01_Bytes.l1 k l x (a : Int) 0 0 = _ := h3
    rw [rotuletref01_Bytes.l0, if_pos (by omega), h3, if_pos (by omega), ih (k - 8 - 1) (a + 8) _ (by omega) (by omega) (by omega) (by rw [List.length_append, List.length_singleton]; omega)]
    rw [byts, List.append_assoc]; rfl
theorem bytesof_f {l : List Int} (hd : Dig l) (hL : l.length ≤ 90000) {k : Nat} (hk : 2 * l.length + 24 < k) :
    ∃ r, rotuletref01_Bytes.f k l = some r ∧ r.length = (l.length + 7) / 8 ∧ Byt r ∧ ∀ j, bitAt r j = at1 l j := by
  refine ⟨byts (at1 l) 0 ((l.length + 7) / 8), ?_, byts_len _ _ _, byts_byt _ _ _, fun j => ?_⟩
  · unfold rotuletref01_Bytes.f
    exact bytesof_l0 hd hL ((l.length + 7) / 8) k 0 [] (by omega) (by omega) (by omega) (by simp only [List.length_nil]; omega)
  · rw [byts_bit]
    by_cases h : j / 8 < (l.length + 7) / 8
    · rw [decide_eq_true h]; rfl
    · rw [decide_eq_false h]
      unfold at1
      rw [List.getD_eq_getElem?_getD, List.getElem?_eq_none (by omega)]; rfl
end Go.Proofs.Ytfjcanleekmagaa.Pure
