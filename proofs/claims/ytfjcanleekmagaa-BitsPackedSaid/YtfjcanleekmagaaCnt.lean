/- The law's own check of its functions, and the bits of a byte list that stand. No condition beyond the ranges that stand in each lemma. -/
import Derived.Test.YtfjcanleekmagaaNum
namespace Go.Proofs.Ytfjcanleekmagaa.Pure
open Go.RowKit Go.Proofs.Ytfjcanleekmagaa.Fn Go.Proofs.YtfjcanleekmagaaW.PrintWords Go.Proofs.YtfjcanleekmagaaW.PrintLast Go.Proofs.YtfjcanleekmagaaW.PrintMore

theorem alive_100 : rotuletlaw01_alive.f 100 = some true := by decide +kernel
theorem alive_f {k : Nat} (h : 100 ≤ k) : rotuletlaw01_alive.f k = some true := by
  obtain ⟨d, rfl⟩ : ∃ d, k = 100 + d := ⟨k - 100, by omega⟩
  clear h
  induction d with
  | zero => exact alive_100
  | succ d ih => exact rotuletlaw01_alive.mono (100 + d) true ih
theorem alive_t {k : Nat} (h : 100 ≤ k) : ((rotuletlaw01_alive.f k).bind fun t => (some t)) = some true := by rw [alive_f h, Option.bind_some]

def cnt : List Int → Nat
  | [] => 0
  | x :: xs => Lib.onesCount x.toNat + cnt xs
theorem ones_le : ∀ c : Fin 256, Lib.onesCount c.val ≤ 8 := by decide +kernel
theorem cnt_le : ∀ l, Byt l → cnt l ≤ 8 * l.length
  | [], _ => by decide
  | x :: xs, h => by
    have h1 := cnt_le xs (fun y hy => h y (List.mem_cons_of_mem _ hy))
    have h2 := h x List.mem_cons_self
    have h3 := ones_le ⟨x.toNat, by omega⟩
    simp only at h3
    rw [cnt, List.length_cons]; omega
theorem cnt_append : ∀ a b, cnt (a ++ b) = cnt a + cnt b
  | [], b => by simp [cnt]
  | x :: xs, b => by rw [List.cons_append, cnt, cnt, cnt_append xs b, Nat.add_assoc]
theorem ones_f {x : Int} (h : 0 ≤ x ∧ x < 256) : bits_OnesCount8.f x = some ((Lib.onesCount x.toNat : Nat) : Int) := by
  unfold bits_OnesCount8.f; rw [if_pos (by omega)]
theorem nat_le {a b : Nat} (h : a ≤ b) : (a : Int) ≤ (b : Int) := by omega
theorem int_irrefl (a : Int) : ¬ a < a := by omega
theorem w_succ {n : Nat} (h : n < 100000000) : wrap64 ((n : Int) + 1) = ((n + 1 : Nat) : Int) := by
  have := w_add (n := n) (t := 1) (by omega)
  rwa [show ((1 : Nat) : Int) = 1 from rfl] at this
theorem Byt.mem {l : List Int} (h : Byt l) {i : Nat} (hi : i < l.length) : 0 ≤ l[i] ∧ l[i] < 256 := h _ (List.getElem_mem hi)
theorem rd_get {l : List Int} {i : Nat} (hi : i < l.length) : rd l (i : Int) = l[i] := by
  unfold rd; rw [Int.toNat_natCast, List.getD_eq_getElem?_getD, List.getElem?_eq_getElem hi, Option.getD_some]
theorem six {x c d : Nat} (hx : x + 8 * (d + 1) ≤ 100000000) (hc : c ≤ 8) : x + c + 8 * d ≤ 100000000 ∧ x + c ≤ 100000000 := by omega
theorem count_l0 {l : List Int} (hl : Byt l) (hL : l.length ≤ 1000000) : ∀ (d k i x : Nat), d < k → i + d = l.length → x + 8 * d ≤ 100000000 →
    bits_Count.l0 k (x : Int) l (l.length : Int) (i : Int) = some ((x + cnt (l.drop i) : Nat) : Int) := by
  intro d
  induction d with
  | zero =>
    intro k i x hk hi hx
    obtain ⟨k, rfl⟩ : ∃ j, k = j + 1 := ⟨k - 1, by omega⟩
    have hi : i = l.length := hi
    subst hi
    rw [bits_Count.l0, if_neg (int_irrefl _), List.drop_length]; rfl
  | succ d ih =>
    intro k i x hk hi hx
    have o1 : i < l.length := by omega
    have o2 : d < k - 1 := by omega
    have o3 : i + 1 + d = l.length := by omega
    have o8 : i < 100000000 := by omega
    obtain ⟨k, rfl⟩ : ∃ j, k = j + 1 := ⟨k - 1, by omega⟩
    rw [Nat.add_sub_cancel] at o2
    have o4 := hl.mem o1
    obtain ⟨o6, o7⟩ := six hx (ones_le ⟨(l[i]).toNat, by omega⟩)
    simp only at o6 o7
    rw [bits_Count.l0, if_pos (nat_lt o1), if_pos (nat_nn _), if_pos (nat_lt o1), rd_get o1, ones_f o4, Option.bind_some, w_add o7, w_succ o8, ih k (i + 1) _ o2 o3 o6]
    rw [List.drop_eq_getElem_cons o1, cnt, Nat.add_assoc]
theorem count_f {l : List Int} (hl : Byt l) (hL : l.length ≤ 1000000) {k : Nat} (hk : l.length < k) : bits_Count.f k l = some ((cnt l : Nat) : Int) := by
  unfold bits_Count.f
  have := count_l0 hl hL l.length k 0 0 hk (Nat.zero_add _) (by omega)
  rw [List.drop_zero, Nat.zero_add] at this
  exact this

/-- A whole byte as a number of bits. -/
theorem num_byte {l : List Int} (hl : Byt l) (i : Nat) : num (bitAt l) (8 * i) 8 = (l.getD i 0).toNat := by
  symm; apply num_of; intro t
  by_cases ht : t < 8
  · rw [decide_eq_true ht, Bool.true_and]
    have := bitAt_in (l := l) (a := 8 * i) (j := 8 - 1 - t) (by omega)
    rw [show 8 * (8 * i / 8) = 8 * i from by omega, show 8 * i / 8 = i from by omega] at this
    rw [this, show 7 - (8 - 1 - t) = t from by omega]
  · have h := hl.at i
    rw [decide_eq_false ht, Bool.false_and]
    apply Nat.testBit_lt_two_pow
    have : 2 ^ 8 ≤ 2 ^ t := Nat.pow_le_pow_right (by decide) (by omega)
    omega
theorem num_bytes {l : List Int} (hl : Byt l) (i m : Nat) : num (bitAt l) (8 * i) (8 * (m + 1)) = num (bitAt l) (8 * i) (8 * m) * 256 + (l.getD (i + m) 0).toNat := by
  rw [show 8 * (m + 1) = 8 * m + 8 from by omega, num_add, show 8 * i + 8 * m = 8 * (i + m) from by omega, num_byte hl]
end Go.Proofs.Ytfjcanleekmagaa.Pure
