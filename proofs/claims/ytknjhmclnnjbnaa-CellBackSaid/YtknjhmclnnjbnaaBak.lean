/- What Decode reads: of Encode's bytes the cell, of a byte less or one more nothing; conditions: as each theorem names them. -/
import Derived.Test.YtknjhmclnnjbnaaSam
import Derived.Test.YtknjhmclnnjbnaaDe2
namespace Go.Proofs.Ytknjhmclnnjbnaa.Pure
open Go.RowKit Go.Proofs.Ytknjhmclnnjbnaa.Fn Go.Proofs.YtknjhmclnnjbnaaW.PrintWords Go.Proofs.YtknjhmclnnjbnaaW.PrintLast Go.Proofs.YtknjhmclnnjbnaaW.PrintMore
def vAt (l : List Int) (a n : Nat) : Nat := if a + n ≤ 8 * l.length then num (bitAt l) a n else 0
theorem vAt_lt (l : List Int) (a n : Nat) : vAt l a n < 2 ^ n := by
  unfold vAt
  split
  · exact num_lt _ _ _
  · exact Nat.two_pow_pos n
theorem numAt_f {l : List Int} (hl : Byt l) (hL : l.length ≤ 1000000) (a n : Nat) (hn : n ≤ 64) (ok : Bool) : numAt l (a : Int) (n : Int) ok = some (((vAt l a n : Nat) : Int), ok && decide (a + n ≤ 8 * l.length)) := by
  unfold numAt vAt
  by_cases h : a + n ≤ 8 * l.length
  · rw [get_ok hl hL (by decide) hn h, Option.bind_some, if_pos h, decide_eq_true h]
  · rw [get_no hL (fun q => h (by have := q.2.2.2; omega)), Option.bind_some, if_neg h, decide_eq_false h]
    rfl
def bk (l : List Int) (a : Nat) : S41 := ⟨((vAt l a 4 : Nat) : Int), ⟨unNone ((vAt l (a + 4) 21 : Nat) : Int), unNone ((vAt l (a + 25) 21 : Nat) : Int)⟩⟩
theorem w_small {x : Int} (h0 : 0 ≤ x) (h1 : x < 9223372036854775808) : wrap64 x = x := by unfold wrap64; omega
theorem backAt_f {l : List Int} (hl : Byt l) (hL : l.length ≤ 1000000) (a : Nat) (ha : a ≤ 100000) (ok : Bool) : backAt l (a : Int) ok = some (bk l a, ok && decide (a + 46 ≤ 8 * l.length)) := by
  have e0 : numAt l (a : Int) 4 ok = _ := numAt_f hl hL a 4 (by decide) ok
  have p1 : wrap64 ((a : Int) + 4) = ((a + 4 : Nat) : Int) := by unfold wrap64; omega
  have p2 : wrap64 (((a + 4 : Nat) : Int) + 21) = ((a + 25 : Nat) : Int) := by unfold wrap64; omega
  have e1 : ∀ q, numAt l ((a + 4 : Nat) : Int) 21 q = _ := fun q => numAt_f hl hL (a + 4) 21 (by decide) q
  have e2 : ∀ q, numAt l ((a + 25 : Nat) : Int) 21 q = _ := fun q => numAt_f hl hL (a + 25) 21 (by decide) q
  unfold backAt
  rw [e0, Option.bind_some, p1, e1, Option.bind_some, p2, e2, Option.bind_some]
  have hv := vAt_lt l a 4
  rw [w_small (by omega) (by omega)]
  congr 2
  cases ok
  · rfl
  · simp only [Bool.true_and, ← Bool.decide_and]
    congr 1
    apply propext
    omega
def bks (l : List Int) : Nat → Nat → List S41
  | 0, _ => []
  | n + 1, a => bk l a :: bks l n (a + 46)
theorem bks_len (l : List Int) : ∀ n a, (bks l n a).length = n
  | 0, _ => rfl
  | n + 1, a => by rw [bks, List.length_cons, bks_len l n]
theorem bks_at (l : List Int) : ∀ n a i, i < n → (bks l n a).getD i z41 = bk l (a + 46 * i)
  | 0, _, i, h => absurd h (Nat.not_lt_zero i)
  | n + 1, a, 0, _ => rfl
  | n + 1, a, i + 1, h => by
    show (bks l n (a + 46)).getD i z41 = _
    rw [bks_at l n (a + 46) i (by omega)]
    congr 1
    omega
theorem next_f {a : Nat} (h : a ≤ 100000) : nextAt (a : Int) = ((a + 46 : Nat) : Int) := by unfold nextAt wrap64; omega
theorem end_f : ∀ n a : Nat, a + 46 * n ≤ 100000 → endAt n (a : Int) = ((a + 46 * n : Nat) : Int)
  | 0, a, _ => rfl
  | n + 1, a, h => by
    rw [endAt, next_f (by omega), end_f n (a + 46) (by omega)]
    congr 1
    omega
theorem backsAt_f {l : List Int} (hl : Byt l) (hL : l.length ≤ 1000000) : ∀ (n a : Nat) (ok : Bool), a + 46 * n ≤ 100000 →
    ∃ o, backsAt l n (a : Int) ok = some (bks l n a, o) ∧ (o = true → ok = true ∧ (n = 0 ∨ a + 46 * n ≤ 8 * l.length)) ∧ (ok = true → a + 46 * n ≤ 8 * l.length → o = true)
  | 0, a, ok, _ => ⟨ok, rfl, fun h => ⟨h, .inl rfl⟩, fun h _ => h⟩
  | n + 1, a, ok, h => by
    obtain ⟨o, e, h1, h2⟩ := backsAt_f hl hL n (a + 46) (ok && decide (a + 46 ≤ 8 * l.length)) (by omega)
    refine ⟨o, ?_, fun q => ?_, fun q r => ?_⟩
    · rw [backsAt, backAt_f hl hL a (by omega) ok, Option.bind_some, next_f (by omega), e, Option.bind_some]
      rfl
    · obtain ⟨p1, p2⟩ := h1 q
      simp only [Bool.and_eq_true, decide_eq_true_eq] at p1
      exact ⟨p1.1, .inr (by omega)⟩
    · exact h2 (by rw [q, decide_eq_true (by omega)]; rfl) (by omega)
theorem head_f {n : Nat} (h : n < 8) : headAt (endAt n 12) = (((12 + 46 * n + 7) / 8 : Nat) : Int) := by
  have e : endAt n 12 = ((12 + 46 * n : Nat) : Int) := end_f n 12 (by omega)
  unfold headAt
  rw [e, show wrap64 (((12 + 46 * n : Nat) : Int) + 8) = ((12 + 46 * n + 8 : Nat) : Int) from by unfold wrap64; omega, show wrap64 (((12 + 46 * n + 8 : Nat) : Int) - 1) = ((12 + 46 * n + 7 : Nat) : Int) from by unfold wrap64; omega,
    show ((12 + 46 * n + 7 : Nat) : Int).tdiv 8 = (((12 + 46 * n + 7) / 8 : Nat) : Int) from tdiv_nat _ 8]
  exact w_small (by omega) (by omega)
theorem unNone_nn {x : Int} (h : 0 ≤ x) : 0 ≤ unNone x := by unfold unNone; split <;> omega
theorem bks_nn (l : List Int) : ∀ n a, ∀ x ∈ bks l n a, Nn x
  | 0, _, x, h => by cases h
  | n + 1, a, x, h => by
    rcases List.mem_cons.mp h with rfl | h
    · exact ⟨unNone_nn (by omega), unNone_nn (by omega)⟩
    · exact bks_nn l n _ x h
theorem byt_drop {l : List Int} (h : Byt l) (n : Nat) : Byt (l.drop n) := fun x hx => h x (List.mem_of_mem_drop hx)
theorem right_of {k : Nat} {kind : Int} {d : List Int} {b : List S41} {y : List Int} (h : cell_Encode.f k kind d b = some (y, 0)) : cell_Right.f kind d b = some true := by
  rcases cases_right kind d b with h0 | ⟨_, _, _, h0⟩ | ⟨_, _, _, _, h0⟩
  · rw [enc_no h0 k] at h; cases h
  · exact h0
  · exact h0
theorem dec_f {l : List Int} (hl : Byt l) (hL : l.length ≤ 10000) {k : Nat} (hk : 500 < k) : ∃ zk zd zb g, cell_Decode.f k l = some (zk, zd, zb, g) ∧ ((g = 0 ∧ cell_Encode.f k zk zd zb = some (l, 0) ∧ ∀ x ∈ zb, Nn x) ∨ g = 71) := by
  unfold cell_Decode.f
  by_cases e2 : l = [2]
  · rw [if_pos e2]
    exact ⟨_, _, _, _, rfl, .inl ⟨rfl, by rw [e2]; exact enc_junk k, fun x hx => by cases hx⟩⟩
  have hL' : l.length ≤ 1000000 := by omega
  rw [if_neg e2]
  have e0 : numAt l 0 2 true = _ := numAt_f hl hL' 0 2 (by decide) true
  rw [e0, Option.bind_some]
  generalize (true && decide (0 + 2 ≤ 8 * l.length)) = o1
  have e1 : numAt l 2 3 o1 = _ := numAt_f hl hL' 2 3 (by decide) o1
  dsimp only
  rw [e1, Option.bind_some]
  generalize (o1 && decide (2 + 3 ≤ 8 * l.length)) = o2
  have e3 : numAt l 5 7 o2 = _ := numAt_f hl hL' 5 7 (by decide) o2
  dsimp only
  rw [e3, Option.bind_some]
  generalize ho : (o2 && decide (5 + 7 ≤ 8 * l.length)) = o3
  have hc : vAt l 2 3 < 8 := vAt_lt l 2 3
  generalize vAt l 2 3 = n at *
  generalize vAt l 5 7 = m at *
  generalize vAt l 0 2 = kd at *
  dsimp only
  rw [if_pos ⟨by omega, by omega⟩, Int.toNat_natCast]
  obtain ⟨o, e4, h1, _⟩ := backsAt_f hl hL' n 12 o3 (by omega)
  have e4' : backsAt l n 12 o3 = some (bks l n 12, o) := e4
  rw [e4', Option.bind_some]
  cases o with
  | false => exact ⟨_, _, _, _, rfl, .inr rfl⟩
  | true =>
    obtain ⟨p1, p2⟩ := h1 rfl
    rw [p1] at ho
    have h12 : 12 ≤ 8 * l.length := by
      have := (Bool.and_eq_true_iff.mp ho).2
      exact of_decide_eq_true this
    have hb : 12 + 46 * n ≤ 8 * l.length := by omega
    dsimp only
    rw [if_neg (by decide), head_f hc]
    by_cases e5 : wrap64 ((l.length : Int) - (((12 + 46 * n + 7) / 8 : Nat) : Int)) = wrap64 (m : Int)
    · rw [if_pos e5, if_pos ⟨by omega, by omega⟩, Int.toNat_natCast]
      obtain ⟨x, xe, hx⟩ := enc_some (wrap64 (kd : Int)) (l.drop ((12 + 46 * n + 7) / 8)) (bks l n 12) (bks_nn l n 12) hk
      rw [hx, Option.bind_some]
      dsimp only
      by_cases e6 : xe = 0
      · rw [if_pos e6]
        subst e6
        by_cases e7 : (strOfNums x).toList = (strOfNums l).toList
        · rw [if_pos e7]
          have hbx := enc_byt (byt_drop hl _) (bks_nn l n 12) hk hx
          have := str_inj hbx hl e7
          subst this
          exact ⟨_, _, _, _, rfl, .inl ⟨rfl, hx, bks_nn x n 12⟩⟩
        · rw [if_neg e7]; exact ⟨_, _, _, _, rfl, .inr rfl⟩
      · rw [if_neg e6]; exact ⟨_, _, _, _, rfl, .inr rfl⟩
    · rw [if_neg e5]; exact ⟨_, _, _, _, rfl, .inr rfl⟩
/-- A list that is nobody's bytes is refused. -/
theorem dec_no {l : List Int} (hl : Byt l) (hL : l.length ≤ 10000) {k : Nat} (hk : 500 < k) (h : ∀ zk zd zb, (∀ x ∈ zb, Nn x) → cell_Encode.f k zk zd zb = some (l, 0) → False) : ∃ a c d, cell_Decode.f k l = some (a, c, d, 71) := by
  obtain ⟨a, c, d, g, e, ⟨_, h1, h2⟩ | rfl⟩ := dec_f hl hL hk
  · exact (h a c d h2 h1).elim
  · exact ⟨a, c, d, e⟩
/-- The head of a cell's bytes tells how many there are. -/
theorem enc_head {k : Nat} (hk : 500 < k) {kd : Int} {d : List Int} {b : List S41} (hnn : ∀ x ∈ b, Nn x) {y : List Int} (h : cell_Encode.f k kd d b = some (y, 0)) :
    y = [2] ∨ (2 ≤ y.length ∧ y.length ≤ 1000 ∧ num (bitAt y) 0 2 = 1 ∧ y.length = (12 + 46 * num (bitAt y) 2 3 + 7) / 8 + num (bitAt y) 5 7) := by
  rcases enc_ok hnn hk h with ⟨_, _, _, rfl⟩ | ⟨_, h1, h2, hR, r, rfl, hp⟩
  · exact .inl rfl
  · have g := right_good hR (by decide)
    have f := fit_all h1 h2 g hnn
    have c0 : 1 = num (bitAt (r ++ d)) 0 2 := fieldOf hp f d (i := 0) (by rw [ws_len]; omega)
    have c1 : ((b.length : Int)).toNat = num (bitAt (r ++ d)) 2 3 := fieldOf hp f d (i := 1) (by rw [ws_len]; omega)
    have c2 : ((d.length : Int)).toNat = num (bitAt (r ++ d)) 5 7 := fieldOf hp f d (i := 2) (by rw [ws_len]; omega)
    have hlen := hp.len
    rw [pos_all] at hlen
    rw [Int.toNat_natCast] at c1 c2
    rw [← c0, ← c1, ← c2, List.length_append, hlen]
    exact .inr ⟨by omega, by omega, rfl, rfl⟩
theorem num_cong {f g : Nat → Bool} {a n : Nat} (h : ∀ j, j < n → f (a + j) = g (a + j)) : num f a n = num g a n := by
  apply Nat.eq_of_testBit_eq
  intro t
  rw [num_bit, num_bit]
  by_cases ht : t < n
  · rw [h _ (by omega)]
  · simp [ht]
theorem bits_app {x d : List Int} {a n : Nat} (h : a + n ≤ 8 * x.length) : num (bitAt (x ++ d)) a n = num (bitAt x) a n := num_cong fun j hj => bitAt_app (by omega)
theorem enc_more {k : Nat} (hk : 500 < k) {kd ke : Int} {d d' : List Int} {b b' : List S41} (hb : ∀ x ∈ b, Nn x) (hb' : ∀ x ∈ b', Nn x) {x : List Int} {z : Int} (h : cell_Encode.f k kd d b = some (x, 0)) (h' : cell_Encode.f k ke d' b' = some (x ++ [z], 0)) : False := by
  rcases enc_head hk hb h with rfl | ⟨p1, p2, p3, p4⟩
  · rcases enc_head hk hb' h' with q | ⟨_, _, q, _⟩
    · have := congrArg List.length q; simp at this
    · rw [bits_app (by decide)] at q
      exact absurd q (by decide)
  · rcases enc_head hk hb' h' with q | ⟨_, _, _, q⟩
    · have := congrArg List.length q
      rw [List.length_append] at this
      simp only [List.length_cons, List.length_nil] at this
      omega
    · rw [bits_app (by omega), bits_app (by omega), ← p4, List.length_append] at q
      simp at q
theorem enc_less {k : Nat} (hk : 500 < k) {kd ke : Int} {d d' : List Int} {b b' : List S41} (hb : ∀ x ∈ b, Nn x) (hb' : ∀ x ∈ b', Nn x) {x : List Int} {z : Int} (h : cell_Encode.f k kd d b = some (x ++ [z], 0)) (h' : cell_Encode.f k ke d' b' = some (x, 0)) : False := enc_more hk hb' hb h' h
theorem unmn_none {a : Int} (h0 : 0 ≤ a) (h : a = 18446744073709551615 ∨ a < 1048576) : unNone (((mn a 1048576).toNat : Nat) : Int) = a := by
  unfold unNone mn
  split <;> split <;> omega
theorem wd_n {l : List S41} {i : Nat} (hi : i < l.length) : wn (ws l) (3 * i + 3) = 4 ∧ wn (ws l) (3 * i + 1 + 3) = 21 ∧ wn (ws l) (3 * i + 2 + 3) = 21 := by
  obtain ⟨w0, w1, w2⟩ := wd_at l i hi
  unfold wn
  rw [ws_at, ws_at, ws_at, w0, w1, w2]
  exact ⟨rfl, rfl, rfl⟩
theorem bk_of {n : Nat} {l : List S41} (hn : n ≤ 100) (hl : l.length ≤ 4) (hg : ∀ x ∈ l, Good x) (hnn : ∀ x ∈ l, Nn x) {r : List Int} (hp : Packed (ws l) (vs n l) r) (d : List Int) {i : Nat} (hi : i < l.length) : bk (r ++ d) (12 + 46 * i) = l.getD i z41 := by
  have f := fit_all hn hl hg hnn
  have hlen := hp.len
  rw [pos_all] at hlen
  obtain ⟨w0, w1, w2⟩ := wd_n hi
  obtain ⟨v0, v1, v2⟩ := nm_at l i hi
  have q0 := pos_back l i (by omega)
  have q1 : pos (ws l) (3 * i + 1 + 3) = 12 + 46 * i + 4 := by
    show pos (ws l) (3 * i + 3) + wn (ws l) (3 * i + 3) = _
    rw [q0, w0]
  have q2 : pos (ws l) (3 * i + 2 + 3) = 12 + 46 * i + 25 := by
    show pos (ws l) (3 * i + 1 + 3) + wn (ws l) (3 * i + 1 + 3) = _
    rw [q1, w1]
  have c0 := fieldOf hp f d (i := 3 * i + 3) (by rw [ws_len]; omega)
  have c1 := fieldOf hp f d (i := 3 * i + 1 + 3) (by rw [ws_len]; omega)
  have c2 := fieldOf hp f d (i := 3 * i + 2 + 3) (by rw [ws_len]; omega)
  rw [q0, w0] at c0
  rw [q1, w1] at c1
  rw [q2, w2] at c2
  unfold wn at c0 c1 c2
  rw [vs_at] at c0 c1 c2
  rw [v0] at c0
  rw [v1] at c1
  rw [v2] at c2
  have g := good_at hg hi
  have h := nn_at hnn hi
  have hll : (r ++ d).length = r.length + d.length := List.length_append
  unfold bk vAt
  rw [if_pos (by omega), if_pos (by omega), if_pos (by omega), ← c0, ← c1, ← c2, unmn_none h.1 g.2.2.1, unmn_none h.2 g.2.2.2]
  have g1 := g.1
  rw [show (((l.getD i z41).f0.toNat : Nat) : Int) = (l.getD i z41).f0 from by omega]
theorem dec_enc {k : Nat} (hk : 500 < k) {kind : Int} {d : List Int} {b : List S41} (hd : Byt d) (hnn : ∀ x ∈ b, Nn x) {x : List Int} (h : cell_Encode.f k kind d b = some (x, 0)) : cell_Decode.f k x = some (kind, d, b, 0) := by
  rcases enc_ok hnn hk h with ⟨rfl, rfl, rfl, rfl⟩ | ⟨rfl, h1, h2, hR, r, rfl, hp⟩
  · rfl
  · have hg := right_good hR (by decide)
    have f := fit_all h1 h2 hg hnn
    have hlen := hp.len
    rw [pos_all] at hlen
    have hb : Byt (r ++ d) := byt_app hp.byt hd
    have hll : (r ++ d).length = r.length + d.length := List.length_append
    have hL : (r ++ d).length ≤ 1000000 := by omega
    have c0 : 1 = num (bitAt (r ++ d)) 0 2 := fieldOf hp f d (i := 0) (by rw [ws_len]; omega)
    have c1 : ((b.length : Int)).toNat = num (bitAt (r ++ d)) 2 3 := fieldOf hp f d (i := 1) (by rw [ws_len]; omega)
    have c2 : ((d.length : Int)).toNat = num (bitAt (r ++ d)) 5 7 := fieldOf hp f d (i := 2) (by rw [ws_len]; omega)
    rw [Int.toNat_natCast] at c1 c2
    have v0 : vAt (r ++ d) 0 2 = 1 := by unfold vAt; rw [if_pos (by omega), ← c0]
    have v1 : vAt (r ++ d) 2 3 = b.length := by unfold vAt; rw [if_pos (by omega), ← c1]
    have v2 : vAt (r ++ d) 5 7 = d.length := by unfold vAt; rw [if_pos (by omega), ← c2]
    have e0 : numAt (r ++ d) 0 2 true = _ := numAt_f hb hL 0 2 (by decide) true
    have e1 : numAt (r ++ d) 2 3 true = _ := numAt_f hb hL 2 3 (by decide) true
    have e3 : numAt (r ++ d) 5 7 true = _ := numAt_f hb hL 5 7 (by decide) true
    rw [v0, decide_eq_true (by omega)] at e0
    rw [v1, decide_eq_true (by omega)] at e1
    rw [v2, decide_eq_true (by omega)] at e3
    obtain ⟨o, e4, _, h4⟩ := backsAt_f hb hL b.length 12 true (by omega)
    have ho : o = true := h4 rfl (by omega)
    subst ho
    have e5 : bks (r ++ d) b.length 12 = b := by
      apply List.ext_getElem?
      intro i
      by_cases hi : i < b.length
      · have hi' : i < (bks (r ++ d) b.length 12).length := by rw [bks_len]; exact hi
        have p := (bks_at (r ++ d) b.length 12 i hi).trans (bk_of h1 h2 hg hnn hp d hi)
        rw [List.getD_eq_getElem?_getD, List.getD_eq_getElem?_getD, List.getElem?_eq_getElem hi, List.getElem?_eq_getElem hi'] at p
        rw [List.getElem?_eq_getElem hi, List.getElem?_eq_getElem hi']
        exact congrArg some p
      · rw [List.getElem?_eq_none (by rw [bks_len]; omega), List.getElem?_eq_none (by omega)]
    rw [e5] at e4
    have e4' : backsAt (r ++ d) b.length 12 true = some (b, true) := e4
    unfold cell_Decode.f
    rw [if_neg (fun q => by have := congrArg List.length q; simp at this; omega), e0, Option.bind_some]
    dsimp only
    rw [Bool.true_and, e1, Option.bind_some]
    dsimp only
    rw [Bool.true_and, e3, Option.bind_some]
    dsimp only
    rw [if_pos ⟨by omega, by omega⟩, Int.toNat_natCast, Bool.true_and, e4', Option.bind_some]
    dsimp only
    rw [if_neg (by decide), head_f (by omega), ← hlen, if_pos (by rw [hll]; congr 1; omega), if_pos ⟨by omega, by omega⟩, Int.toNat_natCast, List.drop_left, show wrap64 ((1 : Nat) : Int) = 1 from by unfold wrap64; omega, h, Option.bind_some]
    rw [if_pos rfl, if_pos rfl]
end Go.Proofs.Ytknjhmclnnjbnaa.Pure
