/- Cells that are alike, and cells whose bytes are the same; conditions: as each theorem names them. -/
import Derived.Test.YtknjhmclnnjbnaaEnc
import Derived.Test.YtknjhmclnnjbnaaCel
namespace Go.Proofs.Ytknjhmclnnjbnaa.Pure
open Go.RowKit Go.Proofs.Ytknjhmclnnjbnaa.Fn Go.Proofs.YtknjhmclnnjbnaaW.PrintWords Go.Proofs.YtknjhmclnnjbnaaW.PrintLast Go.Proofs.YtknjhmclnnjbnaaW.PrintMore
theorem nn_of {l : List S41} (h : ∀ x ∈ l, Cel.Wf41 x) : ∀ x ∈ l, Nn x := fun x hx => ⟨(wf_u64 (h x hx).2.1).1, (wf_u64 (h x hx).2.2).1⟩
theorem ext41 {x y : S41} (h0 : x.f0 = y.f0) (h1 : x.f1.f0 = y.f1.f0) (h2 : x.f1.f1 = y.f1.f1) : x = y := by
  obtain ⟨a, b, c⟩ := x
  obtain ⟨d, e, f⟩ := y
  simp only at h0 h1 h2
  subst h0 h1 h2
  rfl
theorem ne41 {x y : S41} (h : ¬ x = y) : (!(x.f0 == y.f0) || ((!(x.f1.f0 == y.f1.f0) || (!(x.f1.f1 == y.f1.f1))))) = true := by
  by_cases h0 : x.f0 = y.f0
  · by_cases h1 : x.f1.f0 = y.f1.f0
    · have h2 : ¬ x.f1.f1 = y.f1.f1 := fun h2 => h (ext41 h0 h1 h2)
      simp [h2]
    · simp [h1]
  · simp [h0]
theorem fits_f (kind : Int) (l1 : List Int) (l : List S41) : ∃ b, rotuletlaw07_Fits.f kind l1 l = some b ∧ (b = true ↔ l1.length ≤ 400 ∧ l.length ≤ 30) := by
  unfold rotuletlaw07_Fits.f
  by_cases h : l1.length ≤ 400
  · rw [if_pos (by omega)]
    exact ⟨_, rfl, by simp only [decide_eq_true_eq]; omega⟩
  · rw [if_neg (by omega)]
    exact ⟨false, rfl, by simp; omega⟩
theorem back_l0 {l m : List S41} (hlm : l.length = m.length) (hL : l.length ≤ 30) : ∀ (d i k : Nat), i + d = l.length → d < k →
    ∃ b, api_Back_24.l0 k l m (l.length : Int) (i : Int) = some b ∧ (b = true ↔ l.drop i = m.drop i)
  | 0, i, k + 1, hi, _ => by
    rw [api_Back_24.l0, if_neg (by omega), List.drop_eq_nil_of_le (by omega), List.drop_eq_nil_of_le (by omega)]
    exact ⟨true, rfl, by simp⟩
  | d + 1, i, k + 1, hi, hk => by
    rw [api_Back_24.l0, if_pos (by omega), if_pos (by omega), if_pos (by omega), if_pos (by omega), drop41 (show i < l.length by omega), drop41 (show i < m.length by omega), w_succ (by omega)]
    generalize rd_T41 l (i : Int) = x
    generalize rd_T41 m (i : Int) = y
    obtain ⟨b, hb, hq⟩ := back_l0 hlm hL d (i + 1) k (by omega) (by omega)
    by_cases e : x = y
    · subst e
      rw [if_neg (by simp), hb]
      exact ⟨b, rfl, by rw [hq]; simp⟩
    · rw [if_pos (ne41 e)]
      exact ⟨false, rfl, by simp [e]⟩
theorem same_f {ka kb : Int} {l1 m1 : List Int} {l m : List S41} (h1 : Byt l1) (h2 : Byt m1) (hL : l.length ≤ 30) {k : Nat} (hk : 40 < k) :
    ∃ b, cell_Same.f k ka l1 l kb m1 m = some b ∧ (b = true ↔ ka = kb ∧ l1 = m1 ∧ l = m) := by
  unfold cell_Same.f bytes_Equal.f
  by_cases e1 : ka = kb
  · rw [if_pos e1, Option.bind_some]
    by_cases e2 : (strOfNums l1).toList = (strOfNums m1).toList
    · have e2' := str_inj h1 h2 e2
      rw [if_pos (beq_iff_eq.mpr e2)]
      unfold api_Back_24.f
      by_cases e3 : l.length = m.length
      · obtain ⟨b, hb, hq⟩ := back_l0 e3 hL l.length 0 k (by omega) (by omega)
        rw [if_pos (by omega)]
        refine ⟨b, ?_, by rw [hq]; simp [e1, e2']⟩
        rw [show ((0 : Nat) : Int) = 0 from rfl] at hb
        rw [hb, Option.bind_some]
      · rw [if_neg (by omega)]
        exact ⟨false, rfl, by simp; intro _ _ h; exact e3 (h ▸ rfl)⟩
    · rw [if_neg (by simpa using e2)]
      exact ⟨false, rfl, by simp; intro _ h; exact absurd (h ▸ rfl) e2⟩
  · rw [if_neg e1]
    exact ⟨false, rfl, by simp [e1]⟩
theorem enc_some (kind : Int) (l1 : List Int) (l : List S41) (hnn : ∀ x ∈ l, Nn x) {k : Nat} (hk : 500 < k) : ∃ x e, cell_Encode.f k kind l1 l = some (x, e) := by
  rcases cases_right kind l1 l with h | ⟨rfl, rfl, rfl, _⟩ | ⟨rfl, h1, h2, hR, _⟩
  · exact ⟨_, _, enc_no h k⟩
  · exact ⟨_, _, enc_junk k⟩
  · obtain ⟨r, he, _⟩ := enc_data h1 h2 hR hnn hk
    exact ⟨_, _, he⟩
theorem byt_app {a b : List Int} (ha : Byt a) (hb : Byt b) : Byt (a ++ b) := fun x hx => (List.mem_append.mp hx).elim (ha x) (hb x)
/-- What Encode wrote, and of what. -/
theorem enc_ok {kind : Int} {l1 : List Int} {l : List S41} (hnn : ∀ x ∈ l, Nn x) {k : Nat} (hk : 500 < k) {x : List Int} (h : cell_Encode.f k kind l1 l = some (x, 0)) :
    (kind = 2 ∧ l1 = [] ∧ l = [] ∧ x = [2]) ∨ (kind = 1 ∧ l1.length ≤ 100 ∧ l.length ≤ 4 ∧ rightB (-1) l = true ∧ ∃ r, x = r ++ l1 ∧ Packed (ws l) (vs l1.length l) r) := by
  rcases cases_right kind l1 l with h0 | ⟨rfl, rfl, rfl, _⟩ | ⟨rfl, h1, h2, hR, _⟩
  · rw [enc_no h0 k] at h; cases h
  · rw [enc_junk k] at h; cases h; exact .inl ⟨rfl, rfl, rfl, rfl⟩
  · obtain ⟨r, he, hp⟩ := enc_data h1 h2 hR hnn hk
    rw [he] at h; cases h
    exact .inr ⟨rfl, h1, h2, hR, r, rfl, hp⟩
theorem enc_byt {kind : Int} {l1 : List Int} {l : List S41} (hb : Byt l1) (hnn : ∀ x ∈ l, Nn x) {k : Nat} (hk : 500 < k) {x : List Int} (h : cell_Encode.f k kind l1 l = some (x, 0)) : Byt x := by
  rcases enc_ok hnn hk h with ⟨_, _, _, rfl⟩ | ⟨_, _, _, _, r, rfl, hp⟩
  · intro y hy; simp at hy; omega
  · exact byt_app hp.byt hb
theorem bitAt_app {r d : List Int} {j : Nat} (h : j < 8 * r.length) : bitAt (r ++ d) j = bitAt r j := by
  unfold bitAt
  rw [List.getD_eq_getElem?_getD, List.getD_eq_getElem?_getD, List.getElem?_append_left (by omega)]
theorem fieldOf {w v r : List Int} (hp : Packed w v r) (hf : ∀ j, j < w.length → Fit w v j) (d : List Int) {i : Nat} (hi : i < w.length) : wn v i = num (bitAt (r ++ d)) (pos w i) (wn w i) := by
  have hle : pos w i + wn w i ≤ pos w w.length := pos_mono w (show i + 1 ≤ w.length by omega)
  have hlen := hp.len
  refine num_of fun t => ?_
  by_cases ht : t < wn w i
  · rw [decide_eq_true ht, Bool.true_and, bitAt_app (by omega), hp.bit i _ hi (by omega), show wn w i - 1 - (wn w i - 1 - t) = t from by omega]
  · rw [decide_eq_false ht, Bool.false_and]
    exact Nat.testBit_lt_two_pow (Nat.lt_of_lt_of_le (hf i hi).2.2 (Nat.pow_le_pow_right (by decide) (by omega)))
theorem wd_eq : ∀ {l m : List S41}, l.length = m.length → wd l = wd m
  | [], [], _ => rfl
  | [], _ :: _, h => by simp at h
  | _ :: _, [], h => by simp at h
  | _ :: xs, _ :: ys, h => by
    show [4, 21, 21] ++ wd xs = [4, 21, 21] ++ wd ys
    rw [wd_eq (show xs.length = ys.length by simpa using h)]
theorem unmn {a b : Int} (ha : a = 18446744073709551615 ∨ a < 1048576) (hb : b = 18446744073709551615 ∨ b < 1048576) (h : mn a 1048576 = mn b 1048576) : a = b := by
  unfold mn at h
  split at h <;> split at h <;> omega
theorem enc_inj {ka kb : Int} {l1 m1 : List Int} {l m : List S41} (hl : ∀ x ∈ l, Nn x) (hm : ∀ x ∈ m, Nn x) {k : Nat} (hk : 500 < k) {x : List Int} (ha : cell_Encode.f k ka l1 l = some (x, 0)) (hb : cell_Encode.f k kb m1 m = some (x, 0)) :
    ka = kb ∧ l1 = m1 ∧ l = m := by
  rcases enc_ok hl hk ha with ⟨rfl, rfl, rfl, rfl⟩ | ⟨rfl, a1, a2, aR, r, rfl, ap⟩
  · rcases enc_ok hm hk hb with ⟨rfl, rfl, rfl, _⟩ | ⟨rfl, b1, b2, bR, s, e, bp⟩
    · exact ⟨rfl, rfl, rfl⟩
    · have h1 := congrArg List.length e
      have h2 := bp.len
      rw [pos_all] at h2
      simp at h1
      omega
  · rcases enc_ok hm hk hb with ⟨rfl, rfl, rfl, e⟩ | ⟨rfl, b1, b2, bR, s, e, bp⟩
    · have h1 := congrArg List.length e
      have h2 := ap.len
      rw [pos_all] at h2
      simp at h1
      omega
    · have ga := right_good aR (by decide)
      have gb := right_good bR (by decide)
      have fa := fit_all a1 a2 ga hl
      have fb := fit_all b1 b2 gb hm
      have c1 := fieldOf ap fa l1 (i := 1) (by rw [ws_len]; omega)
      have c2 := fieldOf bp fb m1 (i := 1) (by rw [ws_len]; omega)
      rw [← e] at c2
      have hc : l.length = m.length := by
        have : ((l.length : Int)).toNat = ((m.length : Int)).toNat := c1.trans c2.symm
        omega
      have hw : ws l = ws m := by unfold ws; rw [wd_eq hc]
      have hrs : r.length = s.length := by rw [ap.len, bp.len, pos_all, pos_all, hc]
      obtain ⟨e1, e2⟩ := List.append_inj e hrs
      subst e1 e2
      refine ⟨rfl, rfl, ?_⟩
      have hv : ∀ i, i < (ws l).length → wn (vs l1.length l) i = wn (vs l1.length m) i := fun i hi => by
        rw [fieldOf ap fa l1 hi, fieldOf bp fb l1 (hw ▸ hi), hw]
      have ev : ∀ i, i < (ws l).length → (vs l1.length l).getD i 0 = (vs l1.length m).getD i 0 := fun i hi => by
        have p := (v8_all a1 a2 ga hl).nat i
        have q := (v8_all b1 b2 gb hm).nat i
        rw [p.1, q.1, hv i hi]
      apply List.ext_getElem? 
      intro i
      by_cases hi : i < l.length
      · have hi' : i < m.length := by omega
        obtain ⟨x0, x1, x2⟩ := nm_at l i hi
        obtain ⟨y0, y1, y2⟩ := nm_at m i hi'
        have k0 := ev (3 * i + 3) (by rw [ws_len]; omega)
        have k1 := ev (3 * i + 1 + 3) (by rw [ws_len]; omega)
        have k2 := ev (3 * i + 2 + 3) (by rw [ws_len]; omega)
        rw [vs_at, vs_at] at k0 k1 k2
        rw [x0, y0] at k0
        rw [x1, y1] at k1
        rw [x2, y2] at k2
        have g := good_at ga hi
        have g' := good_at gb hi'
        have : l.getD i z41 = m.getD i z41 := ext41 k0 (unmn g.2.2.1 g'.2.2.1 k1) (unmn g.2.2.2 g'.2.2.2 k2)
        rw [List.getD_eq_getElem?_getD, List.getD_eq_getElem?_getD, List.getElem?_eq_getElem hi, List.getElem?_eq_getElem hi'] at this
        rw [List.getElem?_eq_getElem hi, List.getElem?_eq_getElem hi']
        exact congrArg some this
      · rw [List.getElem?_eq_none (by omega), List.getElem?_eq_none (by omega)]
end Go.Proofs.Ytknjhmclnnjbnaa.Pure
