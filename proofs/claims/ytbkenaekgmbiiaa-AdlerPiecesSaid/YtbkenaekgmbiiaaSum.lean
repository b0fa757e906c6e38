/- What the program's Adler sums are, as numbers: plain sums of a list of bytes, and the printed functions brought to them. -/
import Derived.Test.YtbkenaekgmbiiaaFn5
import Derived.Laws.BitsAllLaws
import Derived.Laws.Bits64
namespace Go.Proofs.Ytbkenaekgmbiiaa.Pure
open Go.RowKit Go.Proofs.Ytbkenaekgmbiiaa.Fn Go.Proofs.YtbkenaekgmbiiaaW.PrintWords Go.Proofs.YtbkenaekgmbiiaaW.PrintLast

/-- The sum of the bytes. -/
def SS : List Int → Int
  | [] => 0
  | c :: t => c + SS t
/-- The sum of the sums behind each byte. -/
def TT : List Int → Int
  | [] => 0
  | c :: t => ((t.length : Int) + 1) * c + TT t
/-- The two halves, each modulo 65521, as one number. -/
def enc (a b : Int) : Int := 65536 * (b % 65521) + a % 65521

def Bytes (l : List Int) : Prop := ∀ x ∈ l, 0 ≤ x ∧ x ≤ 255

theorem Bytes.of_wf {l : List Int} (h : ∀ x ∈ l, (Lit.int .u8 x).wf = true) : Bytes l := by
  intro x hx
  have := h x hx
  simp [Lit.wf, IntKind.min, IntKind.max, IntKind.bits, IntKind.signed] at this
  omega
theorem Bytes.tail {c : Int} {t : List Int} (h : Bytes (c :: t)) : Bytes t := fun x hx => h x (List.mem_cons_of_mem _ hx)
theorem Bytes.take {l : List Int} (h : Bytes l) (n : Nat) : Bytes (l.take n) := fun x hx => h x (List.mem_of_mem_take hx)
theorem Bytes.drop {l : List Int} (h : Bytes l) (n : Nat) : Bytes (l.drop n) := fun x hx => h x (List.mem_of_mem_drop hx)
theorem Bytes.rd {l : List Int} (h : Bytes l) (i : Int) : 0 ≤ rd l i ∧ rd l i ≤ 255 := by
  unfold Go.Proofs.YtbkenaekgmbiiaaW.PrintWords.rd
  rw [List.getD_eq_getElem?_getD]
  rcases hi : l[i.toNat]? with _ | x
  · simp
  · simp
    exact h x (List.mem_of_getElem? hi)

theorem SS_append (x y : List Int) : SS (x ++ y) = SS x + SS y := by
  induction x with
  | nil => simp [SS]
  | cons c t ih => simp [SS, ih]; omega
theorem TT_append (x y : List Int) : TT (x ++ y) = TT x + (y.length : Int) * SS x + TT y := by
  induction x with
  | nil => simp [TT, SS]
  | cons c t ih =>
    simp only [List.cons_append, TT, SS, ih, List.length_append, Int.natCast_add, Int.mul_add, Int.add_mul]
    omega
theorem SS_bound {l : List Int} (h : Bytes l) : 0 ≤ SS l ∧ SS l ≤ 255 * l.length := by
  induction l with
  | nil => simp [SS]
  | cons c t ih =>
    have := ih h.tail
    have := h c List.mem_cons_self
    simp [SS]
    omega

theorem enc_congr {a b a' b' : Int} (ha : a % 65521 = a' % 65521) (hb : b % 65521 = b' % 65521) : enc a b = enc a' b' := by unfold enc; rw [ha, hb]
theorem enc_bound (a b : Int) : 0 ≤ enc a b ∧ enc a b < 4294967296 := by unfold enc; omega
theorem enc_low (a b : Int) : enc a b % 65536 = a % 65521 := by unfold enc; omega
theorem enc_high (a b : Int) : enc a b / 65536 = b % 65521 := by unfold enc; omega
theorem mod_mul (n x : Int) : (n * (x % 65521)) % 65521 = (n * x) % 65521 := by rw [Int.mul_emod, Int.emod_emod, ← Int.mul_emod]
theorem mod_mul' (n x : Int) : ((n % 65521) * x) % 65521 = (n * x) % 65521 := by rw [Int.mul_comm, mod_mul, Int.mul_comm]

theorem u64_in {n : Int} (h0 : 0 ≤ n) (h1 : n < 18446744073709551616) : IntKind.u64.wrap n = n := by rw [IntKind.wrap_u64]; omega
theorem tmod_in {n : Int} (h0 : 0 ≤ n) (m : Int) : n.tmod m = n % m := Int.tmod_eq_emod_of_nonneg h0
theorem tdiv_in {n : Int} (h0 : 0 ≤ n) (m : Int) : n.tdiv m = n / m := Int.tdiv_eq_ediv_of_nonneg h0

theorem of_eq {s : Int} (h0 : 0 ≤ s) (h1 : s < 4294967296) : adler_of.f s = some ((s % 65536) % 65521, (s / 65536) % 65521) := by
  have e : Go.bits .and .u32 s 65535 = s % 65536 := by
    rw [u32_and s 65535 h0 h1 (by omega) (by omega), show (65535 : Int).toNat = 65535 from rfl, nat_mask16]
    omega
  unfold adler_of.f
  rw [e, u64_in (by omega) (by omega), u64_in (by omega) (by omega), tmod_in (by omega), tmod_in (by omega)]

theorem sum_eq {a b : Int} (h0 : 0 ≤ a) (h1 : 0 ≤ b) : adler_pair_sum.f a b = some (enc a b) := by
  unfold adler_pair_sum.f
  rw [tmod_in h0, tmod_in h1]
  congr 1
  have e1 : ((b % 65521 % 4294967296) * 65536) % 4294967296 = 65536 * (b % 65521) := by omega
  have e2 : a % 65521 % 4294967296 = a % 65521 := by omega
  rw [e1, e2, u32_or _ _ (by omega) (by omega) (by omega) (by omega), nat_join 16 _ _ (by omega) (by omega)]
  unfold enc
  omega

theorem rd_drop (l : List Int) (i : Nat) (h : i < l.length) : l.drop i = rd l i :: l.drop (i + 1) := by
  unfold Go.Proofs.YtbkenaekgmbiiaaW.PrintWords.rd
  rw [List.drop_eq_getElem_cons h, Int.toNat_natCast, List.getD_eq_getElem?_getD, List.getElem?_eq_getElem h]
  rfl
theorem wrap_succ {i n : Int} (h0 : 0 ≤ i) (h : i < n) (hn : n ≤ 140737488355328) : wrap64 (i + 1) = i + 1 := by
  unfold wrap64
  omega

/-- The inner loop of More: i of the piece's bytes are read. -/
theorem more_l1 (x1 x19 : List Int) (x6 : Int) (hb : Bytes x19) (hn : x19.length ≤ 3000) (d : Nat) :
    ∀ (k i : Nat) (a b : Int), i + d = x19.length → d < k → 0 ≤ a → a ≤ 65521 + 255 * (i : Int) → 0 ≤ b → b ≤ 65521 + 900000 * (i : Int) →
      ∃ a' b', adler_More.l1 k x1 x6 x19 (x19.length : Int) (i : Int) a b = adler_More.l1 (k - d) x1 x6 x19 (x19.length : Int) (x19.length : Int) a' b' ∧
        a' = a + SS (x19.drop i) ∧ b' = b + (d : Int) * a + TT (x19.drop i) ∧ 0 ≤ b' := by
  induction d with
  | zero =>
    intro k i a b hi hk h0 h1 h2 h3
    obtain rfl : i = x19.length := by omega
    refine ⟨a, b, rfl, ?_, ?_, h2⟩ <;> simp [SS, TT]
  | succ d ih =>
    intro k i a b hi hk h0 h1 h2 h3
    obtain ⟨k, rfl⟩ : ∃ m, k = m + 1 := ⟨k - 1, by omega⟩
    have hlt : i < x19.length := by omega
    have hr := hb.rd (i : Int)
    obtain ⟨a', b', he, ha, hb', h0'⟩ := ih k (i + 1) (a + rd x19 i) (b + (a + rd x19 i)) (by omega) (by omega) (by omega) (by omega) (by omega) (by omega)
    refine ⟨a', b', ?_, ?_, ?_, h0'⟩
    · rw [show k + 1 - (d + 1) = k - d from by omega, ← he]
      conv => lhs; unfold adler_More.l1
      rw [if_pos (by omega), if_pos (by omega), if_pos (by omega), wrap_succ (n := 3000) (by omega) (by omega) (by omega), u64_in (n := rd x19 i) (by omega) (by omega), u64_in (n := a + rd x19 i) (by omega) (by omega), u64_in (by omega) (by omega)]
      rfl
    · rw [ha, rd_drop x19 i hlt, SS]; omega
    · rw [hb', rd_drop x19 i hlt, TT, List.length_drop, show ((x19.length - (i + 1) : Nat) : Int) = (d : Int) from by omega]
      simp only [Int.natCast_add, Int.add_mul, Int.mul_add]
      omega

theorem more_l0 (n : Nat) : ∀ (k : Nat) (x : List Int) (a b : Int), x.length = n → 3 * n < k → Bytes x → n ≤ 140737488355328 → 0 ≤ a → a < 65521 → 0 ≤ b → b < 65521 →
    adler_More.l0 k x a b = some (enc (a + SS x) (b + (x.length : Int) * a + TT x)) := by
  induction n using Nat.strongRecOn with
  | _ n ih =>
    intro k x a b hx hk hb hn h0 h1 h2 h3
    obtain ⟨k, rfl⟩ : ∃ m, k = m + 1 := ⟨k - 1, by omega⟩
    unfold adler_More.l0
    by_cases hz : x.length = 0
    · have : x = [] := List.eq_nil_of_length_eq_zero hz
      subst this
      rw [if_neg (by simp), sum_eq h0 h2]
      simp [SS, TT]
    · obtain ⟨m, hm, hm0, hm1, hm2⟩ : ∃ m : Nat, mn (x.length : Int) 3000 = (m : Int) ∧ m ≤ x.length ∧ 0 < m ∧ m ≤ 3000 := by
        refine ⟨min x.length 3000, ?_, by omega, by omega, by omega⟩
        unfold mn
        split <;> omega
      rw [if_pos (by omega), hm, if_pos (by omega), if_pos (by omega)]
      simp only [Option.bind_some, Int.toNat_natCast]
      obtain ⟨a', b', he, ha, hb', h0'⟩ := more_l1 x (x.take m) m (hb.take m) (by simp; omega) m k 0 a b (by simp; omega) (by omega) h0 (by omega) h2 (by omega)
      simp only [Int.natCast_zero] at he
      rw [he]
      obtain ⟨j, hj⟩ : ∃ j, k - m = j + 1 := ⟨k - m - 1, by omega⟩
      rw [hj]
      have hsb := SS_bound (hb.take m)
      unfold adler_More.l1
      simp only [List.drop_zero] at ha hb'
      rw [if_neg (by omega), if_pos (by omega), if_pos (by omega), tmod_in (by omega), tmod_in h0', Int.toNat_natCast,
        ih (x.length - m) (by omega) j (x.drop m) _ _ (by simp) (by omega) (hb.drop m) (by omega) (by omega) (by omega) (by omega) (by omega)]
      congr 1
      have e1 : SS x = SS (x.take m) + SS (x.drop m) := by rw [← SS_append, List.take_append_drop]
      have e2 : TT x = TT (x.take m) + ((x.drop m).length : Int) * SS (x.take m) + TT (x.drop m) := by rw [← TT_append, List.take_append_drop]
      have e3 : (x.length : Int) * a = (m : Int) * a + ((x.drop m).length : Int) * a := by rw [← Int.add_mul]; congr 1; simp; omega
      refine enc_congr ?_ ?_
      · rw [ha, e1]; omega
      · have := mod_mul ((x.drop m).length : Int) a'
        rw [e2, e3, hb']
        rw [ha, Int.mul_add] at this
        rw [ha]
        omega

theorem more_eq {k : Nat} {s : Int} {l : List Int} (hk : 3 * l.length < k) (hb : Bytes l) (hn : l.length ≤ 140737488355328) (h0 : 0 ≤ s) (h1 : s < 4294967296) :
    adler_More.f k s l = some (enc (s % 65536 + SS l) (s / 65536 + (l.length : Int) * (s % 65536) + TT l)) := by
  unfold adler_More.f
  rw [of_eq h0 h1]
  simp only [Option.bind_some]
  rw [more_l0 l.length k l _ _ rfl hk hb hn (by omega) (by omega) (by omega) (by omega)]
  congr 1
  have := mod_mul (l.length : Int) (s % 65536)
  refine enc_congr (by omega) (by omega)

/-- The sum of bytes. -/
theorem sum_f {k : Nat} {l : List Int} (hk : 3 * l.length < k) (hb : Bytes l) (hn : l.length ≤ 140737488355328) :
    adler_Sum.f k l = some (enc (1 + SS l) ((l.length : Int) + TT l)) := by
  unfold adler_Sum.f
  rw [more_eq hk hb hn (by omega) (by omega)]
  simp

theorem alive_f {k : Nat} (hk : 27 < k) : rotuletlaw03_alive.f k = some true := by
  unfold rotuletlaw03_alive.f
  rw [sum_f (by simpa using hk) (by intro x hx; simp at hx; omega) (by simp)]
  simp only [Option.bind_some]
  rw [if_pos (by decide), sum_f (by simp; omega) (by intro x hx; simp at hx) (by simp)]
  rfl

theorem times_eq {n : Int} (h1 : n < 9223372036854775808) : adler_times.f n = some ((max n 0) % 65521) := by
  have e : mx n 0 = max n 0 := by unfold mx; split <;> omega
  unfold adler_times.f
  rw [e, u64_in (by omega) (by omega), tmod_in (by omega)]

/-- The next window's sum. -/
theorem roll_eq {s n o i : Int} (h0 : 0 ≤ s) (h1 : s < 4294967296) (hn : n < 9223372036854775808) (ho : 0 ≤ o ∧ o ≤ 255) (hi : 0 ≤ i ∧ i ≤ 255) :
    adler_Roll.f s n o i = some (enc (s % 65536 - o + i) (s / 65536 - max n 0 * o - 1 + (s % 65536 - o + i))) := by
  unfold adler_Roll.f
  rw [of_eq h0 h1]
  simp only [Option.bind_some]
  rw [times_eq hn]
  simp only [Option.bind_some]
  have hp : 0 ≤ max n 0 % 65521 * o ∧ max n 0 % 65521 * o ≤ 65521 * 255 :=
    ⟨Int.mul_nonneg (by omega) (by omega), Int.mul_le_mul (by omega) (by omega) (by omega) (by omega)⟩
  have hq := mod_mul' (max n 0) o
  rw [u64_in (n := o) (by omega) (by omega), u64_in (n := i) (by omega) (by omega), u64_in (n := s % 65536 % 65521 + 65521) (by omega) (by omega),
    u64_in (n := s % 65536 % 65521 + 65521 - o) (by omega) (by omega), u64_in (n := s % 65536 % 65521 + 65521 - o + i) (by omega) (by omega),
    u64_in (n := s / 65536 % 65521 + 65521) (by omega) (by omega), u64_in (n := max n 0 % 65521 * o) (by omega) (by omega),
    u64_in (n := max n 0 % 65521 * o + 1) (by omega) (by omega), tmod_in (by omega), u64_in (n := s / 65536 % 65521 + 65521 - _) (by omega) (by omega), u64_in (by omega) (by omega),
    sum_eq (by omega) (by omega)]
  simp only [Option.bind_some]
  congr 1
  refine enc_congr (by omega) (by omega)

/-- The sum of two lists. -/
theorem join_eq {x y n : Int} (h0 : 0 ≤ x) (h1 : x < 4294967296) (h2 : 0 ≤ y) (h3 : y < 4294967296) (hn : n < 9223372036854775808) :
    adler_Join.f x y n = some (enc (x % 65536 + y % 65536 - 1) (x / 65536 + y / 65536 + max n 0 * (x % 65536 - 1))) := by
  unfold adler_Join.f
  rw [of_eq h0 h1]
  simp only [Option.bind_some]
  rw [of_eq h2 h3]
  simp only [Option.bind_some]
  rw [times_eq hn]
  simp only [Option.bind_some]
  have hp : 0 ≤ max n 0 % 65521 * (x % 65536 % 65521 + 65521 - 1) ∧ max n 0 % 65521 * (x % 65536 % 65521 + 65521 - 1) ≤ 65521 * 131042 :=
    ⟨Int.mul_nonneg (by omega) (by omega), Int.mul_le_mul (by omega) (by omega) (by omega) (by omega)⟩
  have e1 := mod_mul' (max n 0) (x % 65536 % 65521 + 65521 - 1)
  have e2 : (max n 0 * (x % 65536 % 65521 + 65521 - 1)) % 65521 = (max n 0 * (x % 65536 - 1)) % 65521 := by
    have e := mod_mul (max n 0) (x % 65536 % 65521 + 65521 - 1)
    have e' := mod_mul (max n 0) (x % 65536 - 1)
    rw [← e, ← e', show (x % 65536 % 65521 + 65521 - 1) % 65521 = (x % 65536 - 1) % 65521 from by omega]
  rw [u64_in (n := x % 65536 % 65521 + 65521) (by omega) (by omega), u64_in (n := x % 65536 % 65521 + 65521 - 1) (by omega) (by omega),
    u64_in (n := x % 65536 % 65521 + 65521 - 1 + y % 65536 % 65521) (by omega) (by omega), u64_in (n := x / 65536 % 65521 + y / 65536 % 65521) (by omega) (by omega),
    u64_in (n := max n 0 % 65521 * (x % 65536 % 65521 + 65521 - 1)) (by omega) (by omega), u64_in (by omega) (by omega), sum_eq (by omega) (by omega)]
  simp only [Option.bind_some]
  congr 1
  refine enc_congr (by omega) (by omega)

end Go.Proofs.Ytbkenaekgmbiiaa.Pure
