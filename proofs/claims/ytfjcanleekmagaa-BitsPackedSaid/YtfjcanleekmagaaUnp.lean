/- The plain reader's Pack, and both Unpacks. No condition beyond the ranges that stand in each lemma. -/
import Derived.Test.YtfjcanleekmagaaPack
namespace Go.Proofs.Ytfjcanleekmagaa.Pure
open Go.RowKit Go.Proofs.Ytfjcanleekmagaa.Fn Go.Proofs.YtfjcanleekmagaaW.PrintWords Go.Proofs.YtfjcanleekmagaaW.PrintLast Go.Proofs.YtfjcanleekmagaaW.PrintMore

theorem fits_l0 {n : Nat} (hn : n ≤ 64) : ∀ (d k v i : Nat), d < k → i + d = n → v < 18446744073709551616 →
    rotuletref01_fits.l0 k (v : Int) (n : Int) (i : Int) = some (decide (v < 2 ^ d)) := by
  intro d
  induction d with
  | zero =>
    intro k v i hk hi _
    obtain ⟨k, rfl⟩ : ∃ j, k = j + 1 := ⟨k - 1, by omega⟩
    have hi : i = n := hi
    subst hi
    rw [rotuletref01_fits.l0, if_neg (int_irrefl _)]
    congr 1
    by_cases h : v = 0
    · subst h; rfl
    · have h1 : ¬ v < 2 ^ 0 := by omega
      rw [decide_eq_false h1]
      simp only [beq_eq_false_iff_ne]; omega
  | succ d ih =>
    intro k v i hk hi hv
    obtain ⟨k, rfl⟩ : ∃ j, k = j + 1 := ⟨k - 1, by omega⟩
    have o1 : i < n := by omega
    have o2 : i < 100000000 := by omega
    have o3 : d < k := by omega
    have o4 : i + 1 + d = n := by omega
    have o5 : v / 2 < 18446744073709551616 := by omega
    have e2 : IntKind.u64.wrap (Int.tdiv (v : Int) 2) = ((v / 2 : Nat) : Int) := by
      rw [show Int.tdiv (v : Int) 2 = ((v / 2 : Nat) : Int) from tdiv_nat v 2, u64_eq]; omega
    rw [rotuletref01_fits.l0, if_pos (nat_lt o1), e2, w_succ o2, ih k (v / 2) (i + 1) o3 o4 o5]
    congr 1
    apply decide_eq_decide.mpr
    rw [Nat.pow_succ]
    clear e2
    generalize 2 ^ d = q
    omega
theorem fits_f {n v k : Nat} (hn : n ≤ 64) (hk : n < k) (hv : v < 18446744073709551616) : rotuletref01_fits.f k (v : Int) (n : Int) = some (decide (v < 2 ^ n)) := by
  unfold rotuletref01_fits.f
  exact fits_l0 hn n k v 0 hk (Nat.zero_add _) hv
theorem rp_ok {ws vs : List Int} (hv : V8 vs) (hl : ws.length = vs.length) {k i : Nat} (hk : 66 < k) (hi : i < ws.length) (hf : Fit ws vs i) (hi60 : i < 1000) {x : List Int} (hx : x.length ≤ 100000) :
    rotuletref01_Pack.l0 (k + 2) ws vs x (i : Int) = rotuletref01_Pack.l0 k ws vs (x ++ digs (wn vs i) (wn ws i)) ((i + 1 : Nat) : Int) := by
  obtain ⟨f1, f2⟩ := hf.nat
  obtain ⟨v1, v2⟩ := hv.nat i
  have o1 : i < vs.length := by omega
  have o2 : i < 100000000 := by omega
  have hD : (digs (wn vs i) (wn ws i)).length = wn ws i := seg_len _ _ _
  rw [rotuletref01_Pack.l0, if_pos (nat_lt o1), if_pos (nat_nn _), if_pos (nat_lt hi), rd_nat, f1, if_neg (by omega), decide_eq_false (by omega), rotuletref01_Pack.j1, if_neg (by decide), if_pos (nat_nn _), if_pos (nat_lt o1), if_pos (nat_lt hi),
    rd_nat, rd_nat, f1, v1, fits_f f2 (by omega) v2, Option.bind_some, decide_eq_true hf.2.2, if_pos rfl, digits_f f2 (by omega) v2, Option.bind_some, hD, if_pos (by omega), w_succ o2]
theorem rp_no {ws vs : List Int} (hv : V8 vs) (hl : ws.length = vs.length) {k i : Nat} (hk : 66 < k) (hi : i < ws.length) (hf : ¬ Fit ws vs i) {x : List Int} :
    rotuletref01_Pack.l0 (k + 2) ws vs x (i : Int) = some ([], false) := by
  obtain ⟨v1, v2⟩ := hv.nat i
  have o1 : i < vs.length := by omega
  rw [rotuletref01_Pack.l0, if_pos (nat_lt o1), if_pos (nat_nn _), if_pos (nat_lt hi), rd_nat]
  by_cases h1 : ws.getD i 0 < 0
  · rw [if_pos h1, rotuletref01_Pack.j1, if_pos rfl]
  · by_cases h2 : ws.getD i 0 > 64
    · rw [if_neg h1, decide_eq_true h2, rotuletref01_Pack.j1, if_pos rfl]
    · have h3 : ¬ wn vs i < 2 ^ wn ws i := fun h => hf ⟨by omega, by omega, h⟩
      have h4 : ws.getD i 0 = ((wn ws i : Nat) : Int) ∧ wn ws i ≤ 64 := by unfold wn; omega
      rw [if_neg h1, decide_eq_false h2, rotuletref01_Pack.j1, if_neg (by decide), if_pos (nat_nn _), if_pos (nat_lt o1), if_pos (nat_lt hi), rd_nat, rd_nat, v1, h4.1, fits_f h4.2 (by omega) v2, Option.bind_some, decide_eq_false h3, if_neg (by decide)]
theorem rp_any {ws vs : List Int} (hv : V8 vs) (hl : ws.length = vs.length) (hL : ws.length ≤ 60) : ∀ (d k i : Nat) (x : List Int), 2 * d + 70 < k → i + d = ws.length → x.length = pos ws i → x.length ≤ 64 * i → (∃ j, i ≤ j ∧ j < ws.length ∧ ¬ Fit ws vs j) →
    rotuletref01_Pack.l0 k ws vs x (i : Int) = some ([], false) := by
  intro d
  induction d with
  | zero => intro k i _ _ hi _ _ ⟨j, a, b, _⟩; omega
  | succ d ih =>
    intro k i x hk hi hx hx2 ⟨j, a, b, c⟩
    obtain ⟨k, rfl⟩ : ∃ j, k = j + 2 := ⟨k - 2, by omega⟩
    by_cases hf : Fit ws vs i
    · have : i ≠ j := fun e => c (e ▸ hf)
      have f2 := hf.nat.2
      have hD : (digs (wn vs i) (wn ws i)).length = wn ws i := seg_len _ _ _
      rw [rp_ok hv hl (by omega) (by omega) hf (by omega) (by omega), ih k (i + 1) _ (by omega) (by omega) (by rw [List.length_append, hD, hx]; rfl) (by rw [List.length_append, hD]; omega) ⟨j, by omega, b, c⟩]
    · exact rp_no hv hl (by omega) (by omega) hf
theorem rp_all {ws vs : List Int} (hv : V8 vs) (hl : ws.length = vs.length) (hL : ws.length ≤ 60) (hf : ∀ j, j < ws.length → Fit ws vs j) : ∀ (d k i : Nat) (x : List Int), 2 * d + 20000 < k → i + d = ws.length → x.length = pos ws i → x.length ≤ 64 * i → (∀ y ∈ x, y = 0 ∨ y = 1) →
    ∃ r, rotuletref01_Pack.l0 k ws vs x (i : Int) = some (r, true) ∧ r.length = (pos ws ws.length + 7) / 8 ∧ Byt r ∧
      (∀ i' t, i ≤ i' → i' < ws.length → t < wn ws i' → bitAt r (pos ws i' + t) = (wn vs i').testBit (wn ws i' - 1 - t)) ∧
      (∀ j, j < pos ws i → bitAt r j = at1 x j) ∧ (∀ j, pos ws ws.length ≤ j → bitAt r j = false) := by
  intro d
  induction d with
  | zero =>
    intro k i x hk hi hx hx2 hd
    obtain ⟨k, rfl⟩ : ∃ j, k = j + 1 := ⟨k - 1, by omega⟩
    have hi : i = ws.length := hi
    subst hi
    obtain ⟨r, r1, r2, r3, r4⟩ := bytesof_f (dig_mem hd) (k := k) (by omega) (by omega)
    refine ⟨r, ?_, by rw [r2, hx], r3, fun i' t a b _ => by omega, fun j _ => r4 j, fun j hj => ?_⟩
    · rw [rotuletref01_Pack.l0, if_neg (by omega), r1, Option.bind_some]
    · rw [r4]; unfold at1
      rw [List.getD_eq_getElem?_getD, List.getElem?_eq_none (by omega)]; rfl
  | succ d ih =>
    intro k i x hk hi hx hx2 hd
    obtain ⟨k, rfl⟩ : ∃ j, k = j + 2 := ⟨k - 2, by omega⟩
    have hfi := hf i (by omega)
    have f2 := hfi.nat.2
    have h4 : pos ws (i + 1) = pos ws i + wn ws i := rfl
    have hD : (digs (wn vs i) (wn ws i)).length = wn ws i := seg_len _ _ _
    obtain ⟨r, r1, r2, r3, r4, r5, r6⟩ := ih k (i + 1) (x ++ digs (wn vs i) (wn ws i)) (by omega) (by omega) (by rw [List.length_append, hD, hx]; rfl) (by rw [List.length_append, hD]; omega)
      (fun y hy => (List.mem_append.mp hy).elim (hd y) (seg_mem _ _ _ y))
    refine ⟨r, ?_, r2, r3, fun i' t a b c => ?_, fun j hj => ?_, r6⟩
    · rw [rp_ok hv hl (by omega) (by omega) hfi (by omega) (by omega), r1]
    · by_cases e : i' = i
      · subst e
        rw [r5 _ (by rw [h4]; omega), at1_append, if_neg (by omega), at1_digs, hx, show pos ws i' + t - pos ws i' = t from by omega, decide_eq_true c]; rfl
      · exact r4 i' t (by omega) b c
    · rw [r5 j (by rw [h4]; omega), at1_append, if_pos (by omega)]
theorem refpack_ok {ws vs : List Int} (hv : V8 vs) (hl : ws.length = vs.length) (hL : ws.length ≤ 60) (hf : ∀ j, j < ws.length → Fit ws vs j) {k : Nat} (hk : 30000 < k) :
    ∃ r, rotuletref01_Pack.f k ws vs = some (r, true) ∧ Packed ws vs r := by
  obtain ⟨r, r1, r2, r3, r4, _, r6⟩ := rp_all hv hl hL hf ws.length k 0 [] (by omega) (Nat.zero_add _) rfl (Nat.le_refl _) (fun y hy => by cases hy)
  refine ⟨r, ?_, ⟨r2, r3, fun i t a b => r4 i t (Nat.zero_le _) a b, r6⟩⟩
  unfold rotuletref01_Pack.f
  rw [if_pos (by omega)]
  exact r1
theorem refpack_no {ws vs : List Int} (hv : V8 vs) (hl : ws.length = vs.length) (hL : ws.length ≤ 60) (hf : ∃ j, j < ws.length ∧ ¬ Fit ws vs j) {k : Nat} (hk : 30000 < k) : rotuletref01_Pack.f k ws vs = some ([], false) := by
  obtain ⟨j, a, b⟩ := hf
  unfold rotuletref01_Pack.f
  rw [if_pos (by omega)]
  exact rp_any hv hl hL ws.length k 0 [] (by omega) (Nat.zero_add _) rfl (Nat.le_refl _) ⟨j, Nat.zero_le _, a, b⟩

/-! Unpack. -/
/-- The numbers of the first fields. -/
def outs (f : Nat → Bool) (ws : List Int) : Nat → List Int
  | 0 => []
  | i + 1 => outs f ws i ++ [((num f (pos ws i) (wn ws i) : Nat) : Int)]
theorem outs_len (f : Nat → Bool) (ws : List Int) : ∀ i, (outs f ws i).length = i
  | 0 => rfl
  | i + 1 => by rw [outs, List.length_append, outs_len f ws i]; rfl
theorem outs_get (f : Nat → Bool) (ws : List Int) {i : Nat} : ∀ n, i < n → (outs f ws n)[i]? = some ((num f (pos ws i) (wn ws i) : Nat) : Int)
  | 0, h => by omega
  | n + 1, h => by
    rw [outs, List.getElem?_append, outs_len]
    by_cases e : i < n
    · rw [if_pos e, outs_get f ws n e]
    · have : i = n := by omega
      subst this
      rw [if_neg e, Nat.sub_self]; rfl
def In (ws b : List Int) (i : Nat) : Prop := 0 ≤ ws.getD i 0 ∧ ws.getD i 0 ≤ 64 ∧ pos ws i + wn ws i ≤ 8 * b.length
theorem In.nat {ws b : List Int} {i : Nat} (h : In ws b i) : ws.getD i 0 = ((wn ws i : Nat) : Int) ∧ wn ws i ≤ 64 ∧ pos ws i + wn ws i ≤ 8 * b.length := by
  obtain ⟨h1, h2, h3⟩ := h
  unfold wn at h3 ⊢; omega
theorem in_ok {ws b : List Int} {i : Nat} : In ws b i ↔ Ok b ((pos ws i : Nat) : Int) (ws.getD i 0) := by
  unfold In Ok wn; omega
structure Fine (ws b : List Int) : Prop where
  ins : ∀ i, i < ws.length → In ws b i
  len : (pos ws ws.length + 7) / 8 = b.length
  rest : ∀ j, pos ws ws.length ≤ j → bitAt b j = false
theorem num_zero {f : Nat → Bool} {a : Nat} : ∀ n, num f a n = 0 ↔ ∀ j, j < n → f (a + j) = false
  | 0 => by simp [num]
  | n + 1 => by
    rw [num]
    constructor
    · intro h j hj
      by_cases e : j < n
      · exact (num_zero n).mp (by omega) j e
      · have : j = n := by omega
        subst this
        cases hb : f (a + j)
        · rfl
        · rw [hb] at h; simp at h
    · intro h
      rw [(num_zero n).mpr (fun j hj => h j (by omega)), h n (by omega)]; rfl
theorem bitAt_out {b : List Int} {j : Nat} (h : 8 * b.length ≤ j) : bitAt b j = false := by
  unfold bitAt
  rw [List.getD_eq_getElem?_getD, List.getElem?_eq_none (by omega)]; simp
theorem pos_in {ws b : List Int} (h : ∀ i, i < ws.length → In ws b i) : ∀ i, i ≤ ws.length → pos ws i ≤ 8 * b.length
  | 0, _ => by simp [pos]
  | i + 1, hi => (h i (by omega)).2.2
theorem un_step {ws b : List Int} (hb : Byt b) (hL : b.length ≤ 1000) {k i : Nat} (hk : 64 < k) (hi : i < ws.length) (hi2 : i < 1000) (h : In ws b i) :
    bits_Unpack.l0 (k + 1) b (outs (bitAt b) ws i) ((pos ws i : Nat) : Int) ws (ws.length : Int) (i : Int) = bits_Unpack.l0 k b (outs (bitAt b) ws (i + 1)) ((pos ws (i + 1) : Nat) : Int) ws (ws.length : Int) ((i + 1 : Nat) : Int) := by
  obtain ⟨h1, h2, h3⟩ := h.nat
  have o1 : pos ws i + wn ws i ≤ 100000000 := by omega
  have o2 : i < 100000000 := by omega
  rw [bits_Unpack.l0, if_pos (nat_lt hi), if_pos (nat_nn _), if_pos (nat_lt hi), rd_nat, h1, get_ok hb (by omega) hk h2 h3, Option.bind_some]
  dsimp only
  rw [if_pos rfl, outs_len, if_pos (by omega), w_add o1, w_succ o2]; rfl
theorem un_no {ws b : List Int} (hL : b.length ≤ 1000) {k i : Nat} (hi : i < ws.length) (h : ¬ In ws b i) {x : List Int} :
    bits_Unpack.l0 (k + 1) b x ((pos ws i : Nat) : Int) ws (ws.length : Int) (i : Int) = some ([], false) := by
  rw [bits_Unpack.l0, if_pos (nat_lt hi), if_pos (nat_nn _), if_pos (nat_lt hi), rd_nat, get_no (by omega) (fun hh => h (in_ok.mpr hh)), Option.bind_some]
  dsimp only
  rw [if_neg (by decide)]
theorem un_all {ws b : List Int} (hb : Byt b) (hL : b.length ≤ 1000) (hw : ws.length ≤ 60) (h : ∀ i, i < ws.length → In ws b i) : ∀ (d k i : Nat), d + 64 < k → i + d = ws.length →
    bits_Unpack.l0 k b (outs (bitAt b) ws i) ((pos ws i : Nat) : Int) ws (ws.length : Int) (i : Int) = bits_Unpack.l0 (k - d) b (outs (bitAt b) ws ws.length) ((pos ws ws.length : Nat) : Int) ws (ws.length : Int) (ws.length : Int) := by
  intro d
  induction d with
  | zero => intro k i _ hi; rw [show i = ws.length from hi]; rfl
  | succ d ih =>
    intro k i hk hi
    obtain ⟨k, rfl⟩ : ∃ j, k = j + 1 := ⟨k - 1, by omega⟩
    rw [un_step hb hL (by omega) (by omega) (by omega) (h i (by omega)), ih k (i + 1) (by omega) (by omega), show k + 1 - (d + 1) = k - d from by omega]
theorem un_any {ws b : List Int} (hb : Byt b) (hL : b.length ≤ 1000) (hw : ws.length ≤ 60) : ∀ (d k i : Nat), d + 64 < k → i + d = ws.length → (∃ j, i ≤ j ∧ j < ws.length ∧ ¬ In ws b j) →
    bits_Unpack.l0 k b (outs (bitAt b) ws i) ((pos ws i : Nat) : Int) ws (ws.length : Int) (i : Int) = some ([], false) := by
  intro d
  induction d with
  | zero => intro k i _ hi ⟨j, a, b, _⟩; omega
  | succ d ih =>
    intro k i hk hi ⟨j, a, c, e⟩
    obtain ⟨k, rfl⟩ : ∃ j, k = j + 1 := ⟨k - 1, by omega⟩
    by_cases hf : In ws b i
    · have : i ≠ j := fun q => e (q ▸ hf)
      rw [un_step hb hL (by omega) (by omega) (by omega) hf, ih k (i + 1) (by omega) (by omega) ⟨j, by omega, c, e⟩]
    · exact un_no hL (by omega) hf
theorem whole_one {t k : Nat} (ht : t ≤ 100000) (hk : 60 < k) : bits_whole.f k [(t : Int)] = some (((t + 7) / 8 : Nat) : Int) := by
  have e : pos [(t : Int)] 1 = t := by
    rw [pos, pos]; unfold wn; simp
  have := whole_f (ws := [(t : Int)]) (show [(t : Int)].length ≤ 60 from by rw [List.length_singleton]; decide) (fun i hi => by
    have : i = 0 := by simp at hi; omega
    subst this; exact nat_nn t) (by show pos [(t : Int)] 1 ≤ 1000000; rw [e]; omega) hk
  rw [this]
  show some (((pos [(t : Int)] 1 + 7) / 8 : Nat) : Int) = _
  rw [e]
theorem un_last {ws b : List Int} (hb : Byt b) (hL : b.length ≤ 1000) (h : ∀ i, i < ws.length → In ws b i) {k : Nat} (hk : 100 < k) {x : List Int} :
    bits_Unpack.l0 (k + 1) b x ((pos ws ws.length : Nat) : Int) ws (ws.length : Int) (ws.length : Int) = some (if (pos ws ws.length + 7) / 8 = b.length ∧ num (bitAt b) (pos ws ws.length) (8 * b.length - pos ws ws.length) = 0 then (x, true) else ([], false)) := by
  have hp := pos_in h ws.length (Nat.le_refl _)
  rw [bits_Unpack.l0, if_neg (int_irrefl _), whole_one (by omega) (by omega), Option.bind_some]
  generalize pos ws ws.length = t at hp
  by_cases h1 : (t + 7) / 8 = b.length
  · have e : wrap64 ((wrap64 (8 * (b.length : Int))) - (t : Int)) = ((8 * b.length - t : Nat) : Int) := by
      rw [w64 (x := 8 * (b.length : Int)) (by omega) (by omega), w64 (by omega) (by omega)]; omega
    rw [if_pos (by omega), e, get_ok hb (by omega) (by omega) (by clear e; omega) (by clear e; omega), Option.bind_some]
    dsimp only
    by_cases h2 : num (bitAt b) t (8 * b.length - t) = 0
    · rw [if_pos (by rw [h2]; rfl), if_pos ⟨h1, h2⟩]
    · rw [if_neg (by clear e; omega), if_neg (fun q => h2 q.2)]
  · rw [if_neg (by omega), if_neg (fun q => h1 q.1)]
theorem unpack_ok {ws b : List Int} (hb : Byt b) (hL : b.length ≤ 1000) (hw : ws.length ≤ 60) (h : Fine ws b) {k : Nat} (hk : 400 < k) : bits_Unpack.f k ws b = some (outs (bitAt b) ws ws.length, true) := by
  unfold bits_Unpack.f
  have h0 := un_all hb hL hw h.ins ws.length k 0 (by omega) (Nat.zero_add _)
  have h0 : bits_Unpack.l0 k b [] 0 ws (ws.length : Int) 0 = _ := h0
  obtain ⟨q, hq⟩ : ∃ q, k - ws.length = q + 1 := ⟨k - ws.length - 1, by omega⟩
  rw [h0, hq, un_last hb hL h.ins (by omega), if_pos ⟨h.len, (num_zero _).mpr (fun j _ => h.rest _ (by omega))⟩]
theorem unpack_no {ws b : List Int} (hb : Byt b) (hL : b.length ≤ 1000) (hw : ws.length ≤ 60) (h : ¬ Fine ws b) {k : Nat} (hk : 400 < k) : bits_Unpack.f k ws b = some ([], false) := by
  unfold bits_Unpack.f
  by_cases hin : ∀ i, i < ws.length → In ws b i
  · have h0 := un_all hb hL hw hin ws.length k 0 (by omega) (Nat.zero_add _)
    have h0 : bits_Unpack.l0 k b [] 0 ws (ws.length : Int) 0 = _ := h0
    obtain ⟨q, hq⟩ : ∃ q, k - ws.length = q + 1 := ⟨k - ws.length - 1, by omega⟩
    rw [h0, hq, un_last hb hL hin (by omega), if_neg]
    intro ⟨h1, h2⟩
    refine h ⟨hin, h1, fun j hj => ?_⟩
    by_cases hj2 : j < 8 * b.length
    · have := (num_zero _).mp h2 (j - pos ws ws.length) (by omega)
      rwa [show pos ws ws.length + (j - pos ws ws.length) = j from by omega] at this
    · exact bitAt_out (by omega)
  · have : ∃ j, 0 ≤ j ∧ j < ws.length ∧ ¬ In ws b j := by
      apply Classical.byContradiction
      intro hh
      exact hin fun i hi => Classical.byContradiction fun hn => hh ⟨i, Nat.zero_le _, hi, hn⟩
    exact un_any hb hL hw ws.length k 0 (by omega) (Nat.zero_add _) this

/-! The plain reader's Unpack. -/
theorem number_l0 {f : Nat → Bool} {p n : Nat} {y : List Int} (hy : y.length = n) (hn : n ≤ 64) (h : ∀ j, j < n → y.getD j 0 = (((f (p + j)).toNat : Nat) : Int)) : ∀ (d k m : Nat), d < k → m + d = n →
    rotuletref01_Number.l0 k y ((num f p m : Nat) : Int) (m : Int) = some ((num f p n : Nat) : Int) := by
  intro d
  induction d with
  | zero =>
    intro k m hk hm
    obtain ⟨k, rfl⟩ : ∃ j, k = j + 1 := ⟨k - 1, by omega⟩
    have hm : m = n := hm
    subst hm
    rw [rotuletref01_Number.l0, hy, if_neg (int_irrefl _)]
  | succ d ih =>
    intro k m hk hm
    obtain ⟨k, rfl⟩ : ∃ j, k = j + 1 := ⟨k - 1, by omega⟩
    have o1 : m < n := by omega
    have o2 : m < 100000000 := by omega
    have o3 : d < k := by omega
    have o4 : m + 1 + d = n := by omega
    have o5 : m + 1 ≤ 64 := by omega
    rw [rotuletref01_Number.l0, hy, if_pos (nat_lt o1), if_pos (nat_nn _), rd_nat, h m o1, dbl (num_lt f p m) o5, w_succ o2]
    exact ih k (m + 1) o3 o4
theorem number_f {f : Nat → Bool} {p n : Nat} {y : List Int} (hy : y.length = n) (hn : n ≤ 64) (h : ∀ j, j < n → y.getD j 0 = (((f (p + j)).toNat : Nat) : Int)) {k : Nat} (hk : n < k) :
    rotuletref01_Number.f k y = some ((num f p n : Nat) : Int) := by
  unfold rotuletref01_Number.f
  exact number_l0 hy hn h n k 0 hk (Nat.zero_add _)
theorem field {b : List Int} {p n : Nat} (h : p + n ≤ 8 * b.length) : (((seg (bitAt b) 0 (8 * b.length)).take (p + n)).drop p).length = n ∧
    ∀ j, j < n → (((seg (bitAt b) 0 (8 * b.length)).take (p + n)).drop p).getD j 0 = (((bitAt b (p + j)).toNat : Nat) : Int) := by
  constructor
  · rw [List.length_drop, List.length_take, seg_len]; omega
  · intro j hj
    rw [List.getD_eq_getElem?_getD, List.getElem?_drop, List.getElem?_take, if_pos (by omega), seg_get, if_pos (by omega), Nat.zero_add]; rfl
theorem ru_ok {ws b : List Int} (hL : b.length ≤ 1000) {k i : Nat} (hk : 64 < k) (hi : i < ws.length) (hi2 : i < 1000) (h : In ws b i) :
    rotuletref01_Unpack.l0 (k + 1) ws b (seg (bitAt b) 0 (8 * b.length)) (outs (bitAt b) ws i) ((pos ws i : Nat) : Int) (i : Int) = rotuletref01_Unpack.l0 k ws b (seg (bitAt b) 0 (8 * b.length)) (outs (bitAt b) ws (i + 1)) ((pos ws (i + 1) : Nat) : Int) ((i + 1 : Nat) : Int) := by
  obtain ⟨h1, h2, h3⟩ := h.nat
  have o1 : pos ws i + wn ws i ≤ 100000000 := by omega
  have o2 : i < 100000000 := by omega
  obtain ⟨y1, y2⟩ := field h3
  have e : wrap64 (((8 * b.length : Nat) : Int) - ((pos ws i : Nat) : Int)) = ((8 * b.length - pos ws i : Nat) : Int) := by
    rw [w64 (by omega) (by omega)]; omega
  rw [rotuletref01_Unpack.l0, if_pos (nat_lt hi), if_pos (nat_nn _), rd_nat, h1, if_neg (by clear e; omega), if_neg (by clear e; omega), seg_len, e, if_neg (by clear e; omega), if_pos (nat_nn _), w_add o1, if_pos (by clear e; omega), if_pos (by clear e; omega),
    Int.toNat_natCast, Int.toNat_natCast, number_f y1 h2 y2 (by clear e; omega), Option.bind_some, outs_len, if_pos (by clear e; omega), w_succ o2]; rfl
theorem ru_no {ws b : List Int} (_hL : b.length ≤ 1000) {k i : Nat} (hi : i < ws.length) (hp : pos ws i ≤ 8 * b.length) (h : ¬ In ws b i) {x : List Int} :
    rotuletref01_Unpack.l0 (k + 1) ws b (seg (bitAt b) 0 (8 * b.length)) x ((pos ws i : Nat) : Int) (i : Int) = some ([], false) := by
  rw [rotuletref01_Unpack.l0, if_pos (nat_lt hi), if_pos (nat_nn _), rd_nat, seg_len]
  by_cases h1 : ws.getD i 0 < 0
  · rw [if_pos h1]
  · by_cases h2 : ws.getD i 0 > 64
    · rw [if_neg h1, if_pos h2]
    · have h3 : ¬ pos ws i + wn ws i ≤ 8 * b.length := fun q => h ⟨by omega, by omega, q⟩
      have h4 : ws.getD i 0 = ((wn ws i : Nat) : Int) := by unfold wn; omega
      rw [if_neg h1, if_neg h2, w64 (by omega) (by omega), h4, if_pos (by omega)]
theorem ru_all {ws b : List Int} (hL : b.length ≤ 1000) (hw : ws.length ≤ 60) (h : ∀ i, i < ws.length → In ws b i) : ∀ (d k i : Nat), d + 66 < k → i + d = ws.length →
    rotuletref01_Unpack.l0 k ws b (seg (bitAt b) 0 (8 * b.length)) (outs (bitAt b) ws i) ((pos ws i : Nat) : Int) (i : Int) = rotuletref01_Unpack.l0 (k - d) ws b (seg (bitAt b) 0 (8 * b.length)) (outs (bitAt b) ws ws.length) ((pos ws ws.length : Nat) : Int) (ws.length : Int) := by
  intro d
  induction d with
  | zero => intro k i _ hi; rw [show i = ws.length from hi]; rfl
  | succ d ih =>
    intro k i hk hi
    obtain ⟨k, rfl⟩ : ∃ j, k = j + 1 := ⟨k - 1, by omega⟩
    rw [ru_ok hL (by omega) (by omega) (by omega) (h i (by omega)), ih k (i + 1) (by omega) (by omega), show k + 1 - (d + 1) = k - d from by omega]
theorem ru_any {ws b : List Int} (hL : b.length ≤ 1000) (hw : ws.length ≤ 60) : ∀ (d k i : Nat), d + 66 < k → i + d = ws.length → pos ws i ≤ 8 * b.length → (∃ j, i ≤ j ∧ j < ws.length ∧ ¬ In ws b j) →
    rotuletref01_Unpack.l0 k ws b (seg (bitAt b) 0 (8 * b.length)) (outs (bitAt b) ws i) ((pos ws i : Nat) : Int) (i : Int) = some ([], false) := by
  intro d
  induction d with
  | zero => intro k i _ hi _ ⟨j, a, b, _⟩; omega
  | succ d ih =>
    intro k i hk hi hp ⟨j, a, c, e⟩
    obtain ⟨k, rfl⟩ : ∃ j, k = j + 1 := ⟨k - 1, by omega⟩
    by_cases hf : In ws b i
    · have : i ≠ j := fun q => e (q ▸ hf)
      rw [ru_ok hL (by omega) (by omega) (by omega) hf, ih k (i + 1) (by omega) (by omega) hf.2.2 ⟨j, by omega, c, e⟩]
    · exact ru_no hL (by omega) hp hf
theorem outs_wn (f : Nat → Bool) (ws : List Int) {i : Nat} (h : i < ws.length) : wn (outs f ws ws.length) i = num f (pos ws i) (wn ws i) := by
  unfold wn; rw [List.getD_eq_getElem?_getD, outs_get f ws _ h]; rfl
theorem outs_mem {f : Nat → Bool} {ws : List Int} : ∀ n, (∀ i, i < n → wn ws i ≤ 64) → ∀ x ∈ outs f ws n, 0 ≤ x ∧ x < 18446744073709551616
  | 0, _, _, h => by cases h
  | n + 1, hw, x, h => by
    rw [outs] at h
    rcases List.mem_append.mp h with h | h
    · exact outs_mem n (fun i hi => hw i (by omega)) x h
    · have := num_lt64 f (pos ws n) (hw n (by omega))
      rw [List.mem_singleton.mp h]; omega
theorem outs_fit {ws b : List Int} (h : ∀ i, i < ws.length → In ws b i) : V8 (outs (bitAt b) ws ws.length) ∧ ∀ i, i < ws.length → Fit ws (outs (bitAt b) ws ws.length) i :=
  ⟨getD_all (outs_mem ws.length (fun i hi => (h i hi).nat.2.1)) (by decide), fun i hi => ⟨(h i hi).1, (h i hi).2.1, by rw [outs_wn _ _ hi]; exact num_lt _ _ _⟩⟩
theorem fine_iff {ws b : List Int} (hb : Byt b) (h : ∀ i, i < ws.length → In ws b i) : Fine ws b ↔ Packed ws (outs (bitAt b) ws ws.length) b := by
  constructor
  · intro g
    refine ⟨g.len.symm, hb, fun i t hi ht => ?_, g.rest⟩
    rw [outs_wn _ _ hi, num_bit, decide_eq_true (by omega), Bool.true_and]
    congr 1; omega
  · intro g
    exact ⟨h, g.len.symm, g.rest⟩
theorem ru_last {ws b : List Int} (hb : Byt b) (hw : ws.length ≤ 60) (h : ∀ i, i < ws.length → In ws b i) {k : Nat} (hk : 30000 < k) {p : Int} :
    (Fine ws b → rotuletref01_Unpack.l0 (k + 1) ws b (seg (bitAt b) 0 (8 * b.length)) (outs (bitAt b) ws ws.length) p (ws.length : Int) = some (outs (bitAt b) ws ws.length, true)) ∧
    (¬ Fine ws b → rotuletref01_Unpack.l0 (k + 1) ws b (seg (bitAt b) 0 (8 * b.length)) (outs (bitAt b) ws ws.length) p (ws.length : Int) = some ([], false)) := by
  obtain ⟨q1, q2⟩ := outs_fit h
  obtain ⟨r, r1, r2⟩ := refpack_ok q1 (outs_len _ _ _).symm hw q2 hk
  constructor
  · intro g
    have : r = b := r2.one ((fine_iff hb h).mp g)
    rw [rotuletref01_Unpack.l0, if_neg (int_irrefl _), r1, Option.bind_some]
    dsimp only
    rw [if_pos rfl, this, if_pos rfl]
  · intro g
    have : ¬ (strOfNums r).toList = (strOfNums b).toList := fun e => by
      have := str_inj r2.byt hb e
      rw [this] at r2
      exact g ((fine_iff hb h).mpr r2)
    rw [rotuletref01_Unpack.l0, if_neg (int_irrefl _), r1, Option.bind_some]
    dsimp only
    rw [if_pos rfl, if_neg this]
theorem refunpack {ws b : List Int} (hb : Byt b) (hL : b.length ≤ 1000) (hw : ws.length ≤ 60) {k : Nat} (hk : 40000 < k) :
    (Fine ws b → rotuletref01_Unpack.f k ws b = some (outs (bitAt b) ws ws.length, true)) ∧ (¬ Fine ws b → rotuletref01_Unpack.f k ws b = some ([], false)) := by
  unfold rotuletref01_Unpack.f
  rw [row_f hb (by omega) (by omega), Option.bind_some]
  by_cases hin : ∀ i, i < ws.length → In ws b i
  · have h0 := ru_all hL hw hin ws.length k 0 (by omega) (Nat.zero_add _)
    have h0 : rotuletref01_Unpack.l0 k ws b (seg (bitAt b) 0 (8 * b.length)) [] 0 0 = _ := h0
    obtain ⟨q, hq⟩ : ∃ q, k - ws.length = q + 1 := ⟨k - ws.length - 1, by omega⟩
    rw [h0, hq]
    exact ru_last hb hw hin (by omega)
  · constructor
    · intro g; exact absurd g.ins hin
    · intro _
      have : ∃ j, 0 ≤ j ∧ j < ws.length ∧ ¬ In ws b j := by
        apply Classical.byContradiction
        intro hh
        exact hin fun i hi => Classical.byContradiction fun hn => hh ⟨i, Nat.zero_le _, hi, hn⟩
      exact ru_any hL hw ws.length k 0 (by omega) (Nat.zero_add _) (Nat.zero_le _) this
theorem same_l0 {x : List Int} (hL : x.length ≤ 1000) : ∀ (d k i : Nat), d < k → i + d = x.length → rotuletlaw01_same.l0 k x x (i : Int) = some true := by
  intro d
  induction d with
  | zero =>
    intro k i hk hi
    obtain ⟨k, rfl⟩ : ∃ j, k = j + 1 := ⟨k - 1, by omega⟩
    have hi : i = x.length := hi
    subst hi
    rw [rotuletlaw01_same.l0, if_neg (int_irrefl _)]
  | succ d ih =>
    intro k i hk hi
    obtain ⟨k, rfl⟩ : ∃ j, k = j + 1 := ⟨k - 1, by omega⟩
    have o1 : i < x.length := by omega
    have o2 : i < 100000000 := by omega
    rw [rotuletlaw01_same.l0, if_pos (nat_lt o1), if_pos (nat_nn _), if_pos (nat_lt o1), if_pos rfl, w_succ o2]
    exact ih k (i + 1) (by omega) (by omega)
theorem same_f {x : List Int} (hL : x.length ≤ 1000) {k : Nat} (hk : 1000 < k) : rotuletlaw01_same.f k x x = some true := by
  unfold rotuletlaw01_same.f
  rw [if_pos rfl]
  exact same_l0 hL x.length k 0 (by omega) (Nat.zero_add _)
end Go.Proofs.Ytfjcanleekmagaa.Pure
