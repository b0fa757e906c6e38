/- Proved: for all pairs of cells, the law CellSame answers true. -/
import Derived.Test.YtknjhmclnnjbnaaFnLCellSame
import Derived.Test.YtknjhmclnnjbnaaCel
import Derived.Test.YtknjhmclnnjbnaaSam
namespace Go.Proofs.Ytknjhmclnnjbnaa.Pure
open Go.RowKit Go.Proofs.Ytknjhmclnnjbnaa.Fn Go.Proofs.YtknjhmclnnjbnaaW.PrintWords Go.Proofs.YtknjhmclnnjbnaaW.PrintLast Go.Proofs.YtknjhmclnnjbnaaW.PrintMore
theorem refsame_l0 {l m : List S41} (hlm : l.length = m.length) (hL : l.length ≤ 30) (ka kb : Int) (l1 m1 : List Int) : ∀ (d i k : Nat), i + d = l.length → d < k →
    ∃ b, rotuletref07_Same.l0 k (i : Int) ka l1 l kb m1 m = some b ∧ (b = true ↔ l.drop i = m.drop i)
  | 0, i, k + 1, hi, _ => by
    rw [rotuletref07_Same.l0, if_neg (by omega), List.drop_eq_nil_of_le (by omega), List.drop_eq_nil_of_le (by omega)]
    exact ⟨true, rfl, by simp⟩
  | d + 1, i, k + 1, hi, hk => by
    rw [rotuletref07_Same.l0, if_pos (by omega), if_pos (by omega), if_pos (by omega), drop41 (show i < l.length by omega), drop41 (show i < m.length by omega), w_succ (by omega)]
    generalize rd_T41 l (i : Int) = x
    generalize rd_T41 m (i : Int) = y
    obtain ⟨b, hb, hq⟩ := refsame_l0 hlm hL ka kb l1 m1 d (i + 1) k (by omega) (by omega)
    by_cases e : x = y
    · subst e
      rw [if_neg (by simp), hb]
      exact ⟨b, rfl, by rw [hq]; simp⟩
    · rw [if_pos (ne41 e)]
      exact ⟨false, rfl, by simp [e]⟩
theorem refsame_f {ka kb : Int} {l1 m1 : List Int} {l m : List S41} (h1 : Byt l1) (h2 : Byt m1) (hL : l.length ≤ 30) {k : Nat} (hk : 40 < k) :
    ∃ b, rotuletref07_Same.f k ka l1 l kb m1 m = some b ∧ (b = true ↔ ka = kb ∧ l1 = m1 ∧ l = m) := by
  have no : rotuletref07_Same.j0 k true ka l1 l kb m1 m = some false := by
    obtain ⟨k, rfl⟩ : ∃ j, k = j + 1 := ⟨k - 1, by omega⟩
    rw [rotuletref07_Same.j0, if_pos rfl]
  unfold rotuletref07_Same.f
  by_cases e1 : ka = kb
  · rw [if_pos e1]
    by_cases e2 : (strOfNums l1).toList = (strOfNums m1).toList
    · have e2' := str_inj h1 h2 e2
      rw [if_pos e2]
      by_cases e3 : l.length = m.length
      · obtain ⟨k, rfl⟩ : ∃ j, k = j + 1 := ⟨k - 1, by omega⟩
        rw [show ((l.length : Int) != (m.length : Int)) = false from by simp [e3], rotuletref07_Same.j0, if_neg (by decide)]
        obtain ⟨b, hb, hq⟩ := refsame_l0 e3 hL ka kb l1 m1 l.length 0 k (by omega) (by omega)
        exact ⟨b, hb, by rw [hq]; simp [e1, e2']⟩
      · rw [show ((l.length : Int) != (m.length : Int)) = true from by simp; omega]
        exact ⟨false, no, by simp; intro _ _ h; exact e3 (h ▸ rfl)⟩
    · rw [if_neg e2]
      exact ⟨false, no, by simp; intro _ h; exact absurd (h ▸ rfl) e2⟩
  · rw [if_neg e1]
    exact ⟨false, no, by simp [e1]⟩
theorem CellSame (ka kb : Int) (l1 m1 : List Int) (l m : List S41) (h1 : Byt l1) (h2 : Byt m1) (hl : ∀ x ∈ l, Nn x) (hm : ∀ x ∈ m, Nn x) : rotuletlaw07_CellSame.f 1000 ka l1 l kb m1 m = some true := by
  have yes : rotuletlaw07_CellSame.j0 1000 true ka l1 l kb m1 m = some true := by rw [rotuletlaw07_CellSame.j0, if_pos rfl]; rfl
  unfold rotuletlaw07_CellSame.f
  obtain ⟨s, hs, hsq⟩ := fits_f ka l1 l
  obtain ⟨t, ht, htq⟩ := fits_f kb m1 m
  rw [hs, Option.bind_some, ht, Option.bind_some]
  cases s with
  | false => rw [if_neg (by decide)]; exact yes
  | true =>
    rw [if_pos rfl]
    cases t with
    | false => exact yes
    | true =>
      obtain ⟨a1, a2⟩ := hsq.mp rfl
      obtain ⟨b1, b2⟩ := htq.mp rfl
      obtain ⟨p, hp, hpq⟩ := same_f (ka := ka) (kb := kb) (l := l) (m := m) h1 h2 a2 (k := 999) (by decide)
      obtain ⟨q, hq, hqq⟩ := refsame_f (ka := ka) (kb := kb) (l := l) (m := m) h1 h2 a2 (k := 999) (by decide)
      obtain ⟨p', hp', hpq'⟩ := same_f (ka := kb) (kb := ka) (l := m) (m := l) h2 h1 b2 (k := 999) (by decide)
      obtain ⟨u, hu, huq⟩ := same_f (ka := ka) (kb := ka) (l := l) (m := l) h1 h1 a2 (k := 999) (by decide)
      have e1 : p = q := Bool.eq_iff_iff.mpr (hpq.trans hqq.symm)
      have e2 : p = p' := Bool.eq_iff_iff.mpr (hpq.trans ⟨fun h => hpq'.mpr ⟨h.1.symm, h.2.1.symm, h.2.2.symm⟩, fun h => by obtain ⟨x, y, z⟩ := hpq'.mp h; exact ⟨x.symm, y.symm, z.symm⟩⟩)
      have e3 : u = true := huq.mpr ⟨rfl, rfl, rfl⟩
      subst e1 e3
      rw [rotuletlaw07_CellSame.j0, if_neg (by decide), hp, Option.bind_some, hq, Option.bind_some, if_neg (by simp), hp', Option.bind_some, if_neg (by simp [e2]), hu, Option.bind_some, rotuletlaw07_CellSame.j1, if_neg (by decide)]
      obtain ⟨x, xe, hx⟩ := enc_some ka l1 l hl (k := 998) (by decide)
      obtain ⟨y, ye, hy⟩ := enc_some kb m1 m hm (k := 998) (by decide)
      rw [hx, Option.bind_some, hy, Option.bind_some, rotuletlaw07_alive.f, Option.bind_some, if_pos rfl]
      by_cases hx0 : xe = 0
      · rw [if_pos hx0]
        by_cases hy0 : ye = 0
        · rw [if_pos hy0]
          subst hx0 hy0
          have hbx := enc_byt h1 hl (by decide) hx
          have hby := enc_byt h2 hm (by decide) hy
          have key : p = ((strOfNums x).toList == (strOfNums y).toList) := by
            rw [Bool.eq_iff_iff, hpq, beq_iff_eq]
            constructor
            · rintro ⟨rfl, rfl, rfl⟩
              rw [hx] at hy
              cases hy; rfl
            · intro h
              exact enc_inj hl hm (by decide) hx (str_inj hbx hby h ▸ hy)
          rw [key, beq_self_eq_true]
        · rw [if_neg hy0]
      · rw [if_neg hx0]
theorem CellSame.walk (kind : Int) (A1 : Option Addr) (c1 : Nat) (l1 : List Int) (A2 : Option Addr) (c2 : Nat) (l2 : List S41) (kind' : Int) (A1' : Option Addr) (c1' : Nat) (l1' : List Int) (A2' : Option Addr) (c2' : Nat) (l2' : List S41) (w : World) (_hk : (Lit.int .i64 kind).wf = true)
    (hc1 : l1.length ≤ c1) (hC1 : Kd.C (Kd.int .u8) w A1 l1.length l1) (hw1 : ∀ x ∈ l1, (Lit.int .u8 x).wf = true) (hc2 : l2.length ≤ c2) (hC2 : Kd.C k41 w A2 l2.length l2) (hw2 : ∀ x ∈ l2, Cel.Wf41 x) (_hk' : (Lit.int .i64 kind').wf = true)
    (hc1' : l1'.length ≤ c1') (hC1' : Kd.C (Kd.int .u8) w A1' l1'.length l1') (hw1' : ∀ x ∈ l1', (Lit.int .u8 x).wf = true) (hc2' : l2'.length ≤ c2') (hC2' : Kd.C k41 w A2' l2'.length l2') (hw2' : ∀ x ∈ l2', Cel.Wf41 x) :
    Calls Try.prog 5 #[.agg #[.int .i64 kind, .slice A1 l1.length c1, .slice A2 l2.length c2], .agg #[.int .i64 kind', .slice A1' l1'.length c1', .slice A2' l2'.length c2']] w fun e w' => e = .returned (.bool true) ∧ Below w.heap.size w w' :=
  rotuletlaw07_CellSame.calls 1000 kind A1 c1 l1 A2 c2 l2 kind' A1' c1' l1' A2' c2' l2' true rfl w hC1 hc1 hC2 hc2 hC1' hc1' hC2' hc2' (CellSame kind kind' l1 l1' l2 l2' (fun x hx => wf_u8 (hw1 x hx)) (fun x hx => wf_u8 (hw1' x hx)) (nn_of hw2) (nn_of hw2'))
end Go.Proofs.Ytknjhmclnnjbnaa.Pure
