/- Packing: what the code's Pack and the plain reader's Pack come to, and that they come to the same. No condition beyond the ranges that stand in each lemma. -/
import Derived.Test.YtfjcanleekmagaaTells
namespace Go.Proofs.Ytfjcanleekmagaa.Pure
open Go.RowKit Go.Proofs.Ytfjcanleekmagaa.Fn Go.Proofs.YtfjcanleekmagaaW.PrintWords Go.Proofs.YtfjcanleekmagaaW.PrintLast Go.Proofs.YtfjcanleekmagaaW.PrintMore

theorem loop_list (s : ByteArray) : ∀ (d i : Nat) (r : List UInt8), i + d = s.size → ByteArray.toList.loop s i r = r.reverse ++ s.data.toList.drop i := by
  intro d
  induction d with
  | zero =>
    intro i r hi
    unfold ByteArray.toList.loop
    have hs : s.data.toList.length = s.size := rfl
    rw [if_neg (by omega), List.drop_eq_nil_of_le (by omega), List.append_nil]
  | succ d ih =>
    intro i r hi
    unfold ByteArray.toList.loop
    have hs : s.data.toList.length = s.size := rfl
    have hi' : i < s.data.toList.length := by omega
    have hi2 : i < s.data.size := hi'
    rw [if_pos (by omega), ih (i + 1) _ (by omega), List.drop_eq_getElem_cons hi', List.reverse_cons, List.append_assoc]
    have : s.get! i = s.data.toList[i] := by
      show s.data[i]! = _
      rw [getElem!_pos s.data i hi2]; rfl
    rw [this]; rfl
theorem list_data (s : ByteArray) : s.toList = s.data.toList := by
  unfold ByteArray.toList
  rw [loop_list s s.size 0 [] (Nat.zero_add _)]; rfl
theorem str_inj {x y : List Int} (hx : Byt x) (hy : Byt y) (h : (strOfNums x).toList = (strOfNums y).toList) : x = y := by
  rw [list_data, list_data, strOfNums_data, strOfNums_data] at h
  have hlen : x.length = y.length := by
    have := congrArg List.length h
    rwa [List.length_map, List.length_map] at this
  apply List.ext_getElem hlen
  intro i h1 h2
  have e : (x.map fun n => UInt8.ofNat n.toNat)[i]? = (y.map fun n => UInt8.ofNat n.toNat)[i]? := by rw [h]
  rw [List.getElem?_map, List.getElem?_map, List.getElem?_eq_getElem h1, List.getElem?_eq_getElem h2] at e
  have a1 := hx.mem h1
  have a2 := hy.mem h2
  simp only [Option.map_some, Option.some.injEq] at e
  have e2 := congrArg UInt8.toNat e
  rw [UInt8.toNat_ofNat', UInt8.toNat_ofNat'] at e2
  omega

def wn (ws : List Int) (i : Nat) : Nat := (ws.getD i 0).toNat
/-- Where the field i begins. -/
def pos (ws : List Int) : Nat → Nat
  | 0 => 0
  | i + 1 => pos ws i + wn ws i
theorem pos_mono (ws : List Int) {i : Nat} : ∀ {j}, i ≤ j → pos ws i ≤ pos ws j
  | 0, h => by rw [show i = 0 from by omega]; exact Nat.le_refl _
  | j + 1, h => by
    by_cases e : i = j + 1
    · rw [e]; exact Nat.le_refl _
    · have := pos_mono ws (i := i) (j := j) (by omega)
      rw [pos]; omega
theorem pos_le {ws : List Int} {n : Nat} (h : ∀ i, i < n → wn ws i ≤ 64) : ∀ m, m ≤ n → pos ws m ≤ 64 * m
  | 0, _ => by simp [pos]
  | m + 1, hm => by
    have h1 := pos_le h m (by omega)
    have h2 := h m (by omega)
    rw [pos]; omega
theorem pos_find {ws : List Int} {j : Nat} : ∀ n, j < pos ws n → ∃ i t, i < n ∧ t < wn ws i ∧ j = pos ws i + t
  | 0, h => by simp [pos] at h
  | n + 1, h => by
    by_cases h1 : j < pos ws n
    · obtain ⟨i, t, a, b, c⟩ := pos_find n h1
      exact ⟨i, t, by omega, b, c⟩
    · rw [pos] at h
      exact ⟨n, j - pos ws n, by omega, by omega, by omega⟩
def Fit (ws vs : List Int) (i : Nat) : Prop := 0 ≤ ws.getD i 0 ∧ ws.getD i 0 ≤ 64 ∧ wn vs i < 2 ^ wn ws i
/-- The list r is the values vs packed into the widths ws. -/
structure Packed (ws vs r : List Int) : Prop where
  len : r.length = (pos ws ws.length + 7) / 8
  byt : Byt r
  bit : ∀ i t, i < ws.length → t < wn ws i → bitAt r (pos ws i + t) = (wn vs i).testBit (wn ws i - 1 - t)
  rest : ∀ j, pos ws ws.length ≤ j → bitAt r j = false
theorem Packed.one {ws vs r s : List Int} (h : Packed ws vs r) (g : Packed ws vs s) : r = s := by
  apply same_bits h.byt g.byt (by rw [h.len, g.len])
  intro j _
  by_cases hj : j < pos ws ws.length
  · obtain ⟨i, t, a, b, c⟩ := pos_find ws.length hj
    rw [c, h.bit i t a b, g.bit i t a b]
  · rw [h.rest j (by omega), g.rest j (by omega)]
theorem rd_nat (l : List Int) (i : Nat) : rd l (i : Int) = l.getD i 0 := by unfold rd; rw [Int.toNat_natCast]
def V8 (vs : List Int) : Prop := ∀ i, 0 ≤ vs.getD i 0 ∧ vs.getD i 0 < 18446744073709551616
theorem getD_all {l : List Int} {p : Int → Prop} (h : ∀ x ∈ l, p x) (h0 : p 0) (i : Nat) : p (l.getD i 0) := by
  by_cases hi : i < l.length
  · rw [List.getD_eq_getElem?_getD, List.getElem?_eq_getElem hi]
    exact h _ (List.getElem_mem hi)
  · rw [List.getD_eq_getElem?_getD, List.getElem?_eq_none (by omega)]; exact h0
theorem V8.nat {vs : List Int} (h : V8 vs) (i : Nat) : vs.getD i 0 = ((wn vs i : Nat) : Int) ∧ wn vs i < 18446744073709551616 := by
  have := h i
  unfold wn; omega
theorem Fit.nat {ws vs : List Int} {i : Nat} (h : Fit ws vs i) : ws.getD i 0 = ((wn ws i : Nat) : Int) ∧ wn ws i ≤ 64 := by
  obtain ⟨h1, h2, _⟩ := h
  unfold wn; omega
theorem bitlen_iff {v w : Nat} (hv : v < 18446744073709551616) (hw : w ≤ 64) : Lib.bitLen v ≤ w ↔ v < 2 ^ w := by
  constructor
  · intro h
    by_cases h0 : v = 0
    · rw [h0]; exact Nat.pow_pos (by decide)
    · have hb := Lib.bitLenAux_bounds 64 v hv h0
      change 1 ≤ Lib.bitLen v ∧ 2 ^ (Lib.bitLen v - 1) ≤ v ∧ v < 2 ^ Lib.bitLen v at hb
      exact Nat.lt_of_lt_of_le hb.2.2 (Nat.pow_le_pow_right (by decide) h)
  · intro h; exact Lib.bitLen_le v w hw h
theorem len64_f {k v : Nat} (hv : v < 18446744073709551616) : bits_Len64.f k (v : Int) = some ((Lib.bitLen v : Nat) : Int) := by
  unfold bits_Len64.f
  rw [if_pos (by omega), Int.toNat_natCast]

/-! The code's Pack. -/
theorem pk0_ok {ws vs : List Int} (hv : V8 vs) (hl : ws.length = vs.length) (hL : ws.length ≤ 60) {k i : Nat} (hi : i < ws.length) (hf : Fit ws vs i) :
    bits_Pack.l0 (k + 1) ws vs ws (ws.length : Int) (i : Int) = bits_Pack.l0 k ws vs ws (ws.length : Int) ((i + 1 : Nat) : Int) := by
  obtain ⟨f1, f2⟩ := hf.nat
  obtain ⟨v1, v2⟩ := hv.nat i
  have hf3 := (bitlen_iff v2 f2).mpr hf.2.2
  have o1 : i < vs.length := by omega
  have o2 : i < 100000000 := by omega
  rw [bits_Pack.l0, if_pos (nat_lt hi), if_pos (nat_nn _), if_pos (nat_lt hi), rd_nat, rd_nat, f1, v1, if_neg (by omega), if_neg (by omega), if_pos (nat_lt o1), len64_f v2, Option.bind_some, if_neg (by omega), w_succ o2]
theorem pk0_no {ws vs : List Int} (hv : V8 vs) (hl : ws.length = vs.length) {k i : Nat} (hi : i < ws.length) (hf : ¬ Fit ws vs i) :
    bits_Pack.l0 (k + 1) ws vs ws (ws.length : Int) (i : Int) = some ([], false) := by
  obtain ⟨v1, v2⟩ := hv.nat i
  have o1 : i < vs.length := by omega
  rw [bits_Pack.l0, if_pos (nat_lt hi), if_pos (nat_nn _), if_pos (nat_lt hi), rd_nat, rd_nat]
  by_cases h1 : ws.getD i 0 < 0
  · rw [if_pos h1]
  · by_cases h2 : ws.getD i 0 > 64
    · rw [if_neg h1, if_pos h2]
    · have h3 : ¬ wn vs i < 2 ^ wn ws i := fun h => hf ⟨by omega, by omega, h⟩
      have h4 : ws.getD i 0 = ((wn ws i : Nat) : Int) ∧ wn ws i ≤ 64 := by unfold wn; omega
      have h5 : ¬ Lib.bitLen (wn vs i) ≤ wn ws i := fun h => h3 ((bitlen_iff v2 h4.2).mp h)
      rw [if_neg h1, if_neg h2, if_pos (nat_lt o1), v1, len64_f v2, Option.bind_some, h4.1, if_pos (by omega)]
theorem pk0_all {ws vs : List Int} (hv : V8 vs) (hl : ws.length = vs.length) (hL : ws.length ≤ 60) : ∀ (d k i : Nat), d < k → i + d = ws.length → (∀ j, i ≤ j → j < ws.length → Fit ws vs j) →
    bits_Pack.l0 k ws vs ws (ws.length : Int) (i : Int) = bits_Pack.l0 (k - d) ws vs ws (ws.length : Int) (ws.length : Int) := by
  intro d
  induction d with
  | zero => intro k i _ hi _; rw [show i = ws.length from hi]; rfl
  | succ d ih =>
    intro k i hk hi hf
    obtain ⟨k, rfl⟩ : ∃ j, k = j + 1 := ⟨k - 1, by omega⟩
    rw [pk0_ok hv hl hL (by omega) (hf i (Nat.le_refl _) (by omega)), ih k (i + 1) (by omega) (by omega) (fun j h1 h2 => hf j (by omega) h2), show k + 1 - (d + 1) = k - d from by omega]
theorem pk0_any {ws vs : List Int} (hv : V8 vs) (hl : ws.length = vs.length) (hL : ws.length ≤ 60) : ∀ (d k i : Nat), d < k → i + d = ws.length → (∃ j, i ≤ j ∧ j < ws.length ∧ ¬ Fit ws vs j) →
    bits_Pack.l0 k ws vs ws (ws.length : Int) (i : Int) = some ([], false) := by
  intro d
  induction d with
  | zero => intro k i _ hi ⟨j, a, b, _⟩; omega
  | succ d ih =>
    intro k i hk hi ⟨j, a, b, c⟩
    obtain ⟨k, rfl⟩ : ∃ j, k = j + 1 := ⟨k - 1, by omega⟩
    by_cases hf : Fit ws vs i
    · have : i ≠ j := fun e => c (e ▸ hf)
      rw [pk0_ok hv hl hL (by omega) hf, ih k (i + 1) (by omega) (by omega) ⟨j, by omega, b, c⟩]
    · exact pk0_no hv hl (by omega) hf
theorem whole_l0 {ws : List Int} (hL : ws.length ≤ 60) (hw : ∀ i, i < ws.length → 0 ≤ ws.getD i 0) (hT : pos ws ws.length ≤ 1000000) : ∀ (d k i : Nat), d < k → i + d = ws.length →
    bits_whole.l0 k ((pos ws i : Nat) : Int) ws (ws.length : Int) (i : Int) = some (((pos ws ws.length + 7) / 8 : Nat) : Int) := by
  intro d
  induction d with
  | zero =>
    intro k i hk hi
    obtain ⟨k, rfl⟩ : ∃ j, k = j + 1 := ⟨k - 1, by omega⟩
    have hi : i = ws.length := hi
    subst hi
    rw [bits_whole.l0, if_neg (int_irrefl _)]
    generalize pos ws ws.length = t at hT
    rw [w64 (x := (t : Int) + 8) (by omega) (by omega), w64 (x := (t : Int) + 8 - 1) (by omega) (by omega), show (t : Int) + 8 - 1 = ((t + 7 : Nat) : Int) from by omega, w_div (by omega)]
  | succ d ih =>
    intro k i hk hi
    obtain ⟨k, rfl⟩ : ∃ j, k = j + 1 := ⟨k - 1, by omega⟩
    have o1 : i < ws.length := by omega
    have o2 : i < 100000000 := by omega
    have o3 : d < k := by omega
    have o4 : i + 1 + d = ws.length := by omega
    have h1 := hw i o1
    have h2 : ws.getD i 0 = ((wn ws i : Nat) : Int) := by unfold wn; omega
    have h3 : pos ws (i + 1) ≤ pos ws ws.length := pos_mono ws (by omega)
    rw [pos] at h3
    have o5 : pos ws i + wn ws i ≤ 100000000 := by omega
    rw [bits_whole.l0, if_pos (nat_lt o1), if_pos (nat_nn _), if_pos (nat_lt o1), rd_nat, h2, w_add o5, w_succ o2]
    exact ih k (i + 1) o3 o4
theorem whole_f {ws : List Int} (hL : ws.length ≤ 60) (hw : ∀ i, i < ws.length → 0 ≤ ws.getD i 0) (hT : pos ws ws.length ≤ 1000000) {k : Nat} (hk : 60 < k) : bits_whole.f k ws = some (((pos ws ws.length + 7) / 8 : Nat) : Int) := by
  unfold bits_whole.f
  exact whole_l0 hL hw hT ws.length k 0 (by omega) (Nat.zero_add _)
theorem pk1 {ws vs : List Int} (hv : V8 vs) (hl : ws.length = vs.length) (hL : ws.length ≤ 60) (hf : ∀ j, j < ws.length → Fit ws vs j) {B : Nat} (hB : B ≤ 1000) (hT : pos ws ws.length ≤ 8 * B) :
    ∀ (d k i : Nat) (x : List Int), d + 66 < k → i + d = ws.length → Byt x → x.length = B →
    ∃ r, bits_Pack.l1 k vs x ((pos ws i : Nat) : Int) ws (ws.length : Int) (i : Int) = some (r, true) ∧ r.length = B ∧ Byt r ∧
      (∀ i' t, i ≤ i' → i' < ws.length → t < wn ws i' → bitAt r (pos ws i' + t) = (wn vs i').testBit (wn ws i' - 1 - t)) ∧
      (∀ j, j < pos ws i ∨ pos ws ws.length ≤ j → bitAt r j = bitAt x j) := by
  intro d
  induction d with
  | zero =>
    intro k i x hk hi hx hxB
    obtain ⟨k, rfl⟩ : ∃ j, k = j + 1 := ⟨k - 1, by omega⟩
    have hi : i = ws.length := hi
    subst hi
    refine ⟨x, ?_, hxB, hx, fun i' t a b _ => by omega, fun j _ => rfl⟩
    rw [bits_Pack.l1, if_neg (int_irrefl _)]
  | succ d ih =>
    intro k i x hk hi hx hxB
    obtain ⟨k, rfl⟩ : ∃ j, k = j + 1 := ⟨k - 1, by omega⟩
    have o1 : i < ws.length := by omega
    have o0 : i < vs.length := by omega
    have o2 : i < 100000000 := by omega
    have o3 : d + 66 < k := by omega
    have o4 : i + 1 + d = ws.length := by omega
    obtain ⟨f1, f2⟩ := (hf i o1).nat
    obtain ⟨v1, v2⟩ := hv.nat i
    have h3 : pos ws (i + 1) ≤ pos ws ws.length := pos_mono ws (by omega)
    have h4 : pos ws (i + 1) = pos ws i + wn ws i := rfl
    rw [h4] at h3
    have o5 : pos ws i + wn ws i ≤ 100000000 := by omega
    obtain ⟨y, y1, y2, y3, y4⟩ := set_f (v := wn vs i) hx (by omega) (k := k) (by omega) f2 (show pos ws i + wn ws i ≤ 8 * x.length from by omega)
    obtain ⟨r, r1, r2, r3, r4, r5⟩ := ih k (i + 1) y o3 o4 y3 (by omega)
    refine ⟨r, ?_, r2, r3, fun i' t a b c => ?_, fun j hj => ?_⟩
    · rw [bits_Pack.l1, if_pos (nat_lt o1), if_pos (nat_nn _), if_pos (nat_lt o1), if_pos (nat_lt o0), rd_nat, rd_nat, f1, v1, y1, Option.bind_some, w_add o5, w_succ o2]
      exact r1
    · by_cases e : i' = i
      · subst e
        rw [r5 _ (Or.inl (by rw [h4]; omega)), y4, if_pos (by omega)]
        congr 1; omega
      · exact r4 i' t (by omega) b c
    · rw [r5 j (by rw [h4]; omega), y4, if_neg (by omega)]
theorem zero_byt (n : Nat) : Byt (List.replicate n 0) := fun x hx => by
  have := (List.mem_replicate.mp hx).2
  rw [this]; decide
theorem zero_bit (n j : Nat) : bitAt (List.replicate n 0) j = false := by
  have : (List.replicate n (0 : Int)).getD (j / 8) 0 = 0 := by
    rw [List.getD_eq_getElem?_getD, List.getElem?_replicate]
    split <;> rfl
  unfold bitAt; rw [this]; simp
theorem pack_ok {ws vs : List Int} (hv : V8 vs) (hl : ws.length = vs.length) (hL : ws.length ≤ 60) (hf : ∀ j, j < ws.length → Fit ws vs j) {k : Nat} (hk : 400 < k) :
    ∃ r, bits_Pack.f k ws vs = some (r, true) ∧ Packed ws vs r := by
  have hT : pos ws ws.length ≤ 64 * ws.length := pos_le (fun i hi => (hf i hi).nat.2) ws.length (Nat.le_refl _)
  obtain ⟨r, r1, r2, r3, r4, r5⟩ := pk1 hv hl hL hf (B := (pos ws ws.length + 7) / 8) (by omega) (by omega) ws.length (k - ws.length - 1) 0 (List.replicate ((pos ws ws.length + 7) / 8) 0) (by omega) (Nat.zero_add _) (zero_byt _) List.length_replicate
  refine ⟨r, ?_, ⟨r2, r3, fun i t a b => r4 i t (Nat.zero_le _) a b, fun j hj => by rw [r5 j (Or.inr hj), zero_bit]⟩⟩
  unfold bits_Pack.f
  rw [if_pos (by omega)]
  have h0 := pk0_all hv hl hL ws.length k 0 (by omega) (Nat.zero_add _) (fun j _ h => hf j h)
  have h0 : bits_Pack.l0 k ws vs ws (ws.length : Int) 0 = _ := h0
  rw [h0]
  obtain ⟨q, hq⟩ : ∃ q, k - ws.length = q + 1 := ⟨k - ws.length - 1, by omega⟩
  rw [hq] at r1 ⊢
  rw [bits_Pack.l0, if_neg (int_irrefl _), whole_f hL (fun i hi => (hf i hi).1) (by omega) (by omega), Option.bind_some, if_pos (nat_nn _), Int.toNat_natCast, if_pos (by omega)]
  exact r1
theorem pack_no {ws vs : List Int} (hv : V8 vs) (hl : ws.length = vs.length) (hL : ws.length ≤ 60) (hf : ∃ j, j < ws.length ∧ ¬ Fit ws vs j) {k : Nat} (hk : 400 < k) : bits_Pack.f k ws vs = some ([], false) := by
  obtain ⟨j, a, b⟩ := hf
  unfold bits_Pack.f
  rw [if_pos (by omega)]
  exact pk0_any hv hl hL ws.length k 0 (by omega) (Nat.zero_add _) ⟨j, Nat.zero_le _, a, b⟩
end Go.Proofs.Ytfjcanleekmagaa.Pure
