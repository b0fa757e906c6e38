/- Proved: for all cells, streams and addresses, the law CellFinds answers true. -/
import Derived.Test.YtknjhmclnnjbnaaFnLCellFinds
import Derived.Test.YtknjhmclnnjbnaaCel
namespace Go.Proofs.Ytknjhmclnnjbnaa.Pure
open Go.RowKit Go.Proofs.Ytknjhmclnnjbnaa.Fn Go.Proofs.YtknjhmclnnjbnaaW.PrintWords Go.Proofs.YtknjhmclnnjbnaaW.PrintLast Go.Proofs.YtknjhmclnnjbnaaW.PrintMore

def has (s : Int) (l : List S41) : Bool := l.any fun x => decide (x.f0 = s)
def fore (a : Int) (l : List S41) : Bool := l.all fun x => beforeB a x.f1.f0
theorem right_tail {last : Int} {x : S41} {xs : List S41} (h : rightB last (x :: xs) = true) : wrongB last x = false ∧ rightB x.f0 xs = true := by
  rw [rightB] at h; simpa using h
theorem right_low {last : Int} {l : List S41} (h : rightB last l = true) : ∀ x ∈ l, last < x.f0 := by
  induction l generalizing last with
  | nil => intro x hx; cases hx
  | cons y ys ih =>
    obtain ⟨h1, h2⟩ := right_tail h
    have h3 : last < y.f0 := by simp [wrongB] at h1; omega
    intro x hx
    rcases List.mem_cons.mp hx with rfl | hx
    · exact h3
    · have := ih h2 x hx; omega
theorem find_has (s : Int) (l : List S41) : (findB s l).2.2 = has s l := by
  induction l with
  | nil => rfl
  | cons x xs ih =>
    rw [findB]
    by_cases h : x.f0 = s
    · rw [if_pos h]; simp [has, h]
    · rw [if_neg h, ih]; simp [has, h]
theorem find_no {s : Int} {l : List S41} (h : has s l = false) : (findB s l).1 = 18446744073709551615 ∧ (findB s l).2.1 = 18446744073709551615 := by
  induction l with
  | nil => exact ⟨rfl, rfl⟩
  | cons x xs ih =>
    simp [has] at h
    rw [findB, if_neg h.1]
    exact ih (by simpa [has] using h.2)
theorem find_at {s last : Int} {l : List S41} (hr : rightB last l = true) : ∀ x ∈ l, x.f0 = s → (findB s l).1 = x.f1.f0 ∧ (findB s l).2.1 = x.f1.f1 := by
  induction l generalizing last with
  | nil => intro x hx; cases hx
  | cons y ys ih =>
    obtain ⟨h1, h2⟩ := right_tail hr
    intro x hx hs
    rcases List.mem_cons.mp hx with rfl | hx
    · rw [findB, if_pos hs]; exact ⟨rfl, rfl⟩
    · have := right_low h2 x hx
      rw [findB, if_neg (by omega)]
      exact ih h2 x hx hs
theorem before_fore {last a : Int} {l : List S41} (hr : rightB last l = true) : (l.all fun x => beforeB a x.f1.f0 && beforeB a x.f1.f1) = fore a l := by
  induction l generalizing last with
  | nil => rfl
  | cons y ys ih =>
    obtain ⟨h1, h2⟩ := right_tail hr
    have h3 : beforeB a y.f1.f0 = true → beforeB a y.f1.f1 = true := by
      simp [wrongB, lastingB] at h1
      unfold beforeB
      simp only [Bool.or_eq_true, decide_eq_true_eq]
      omega
    unfold fore
    rw [List.all_cons, List.all_cons, ih h2]
    cases hb : beforeB a y.f1.f0
    · simp
    · rw [h3 hb]; simp [fore]
theorem finds_l0 {s a kind la lb : Int} {is : Bool} {l1 : List Int} {l : List S41} (hL : l.length ≤ 30) (hx : ∀ x ∈ l, x.f0 = s → la = x.f1.f0 ∧ lb = x.f1.f1)
    (hn : has s l = false → la = 18446744073709551615 ∧ lb = 18446744073709551615) (his : is = has s l) {lst : Int} (hR : rightB lst l = true) :
    ∀ (d k i : Nat) (h b : Bool), i + d = l.length → d + 3 < k → has s l = (h || has s (l.drop i)) → fore a l = (b && fore a (l.drop i)) → (h = true → has s l = true) →
      rotuletlaw07_CellFinds.l0 k s a is h b (i : Int) kind l1 l la lb = some true
  | 0, k + 1, i, h, b, hi, hk, hh, hb, hg => by
    have e : i = l.length := by omega
    subst e
    rw [List.drop_length] at hh hb
    rw [rotuletlaw07_CellFinds.l0, if_neg (by omega)]
    obtain ⟨k, rfl⟩ : ∃ j, k = j + 2 := ⟨k - 2, by omega⟩
    have hh' : has s l = h := by rw [hh]; simp [has]
    have hb' : fore a l = b := by rw [hb]; simp [fore]
    have fin : ∀ x72 : Bool, x72 = false → rotuletlaw07_CellFinds.j2 (k + 2) a is h b x72 kind l1 l = some true := by
      rintro _ rfl
      rw [rotuletlaw07_CellFinds.j2, if_neg (by decide)]
      simp only [rotuletlaw07_alive.f, Option.bind_some, if_true]
      rw [if_pos (by rw [his, hh']; simp)]
      simp only [cell_Before.f, Option.bind_some]
      rw [before_fore hR, hb']; simp
    cases h with
    | true => rw [if_pos rfl]; exact fin _ rfl
    | false =>
      rw [if_neg (by decide)]
      obtain ⟨p, q⟩ := hn hh'
      exact fin _ (by simp [p, q])
  | d + 1, k + 1, i, h, b, hi, hk, hh, hb, hg => by
    have hlt : i < l.length := by omega
    have hd := drop_T41 hlt
    rw [hd] at hh hb
    have hm : rd_T41 l (i : Int) ∈ l := by
      have : rd_T41 l (i : Int) ∈ l.drop i := by rw [hd]; exact List.mem_cons_self
      exact List.mem_of_mem_drop this
    generalize hx0 : rd_T41 l (i : Int) = x at *
    have hw : wrap64 ((i : Int) + 1) = ((i + 1 : Nat) : Int) := by unfold wrap64; omega
    have nxt : ∀ h' b', h' = (h || decide (x.f0 = s)) → b' = (b && beforeB a x.f1.f0) → rotuletlaw07_CellFinds.l0 k s a is h' b' (wrap64 ((i : Int) + 1)) kind l1 l la lb = some true := by
      rintro _ _ rfl rfl
      rw [hw]
      refine finds_l0 hL hx hn his hR d k (i + 1) _ _ (by omega) (by omega) ?_ ?_ ?_
      · rw [hh]; simp [has, Bool.or_assoc]
      · rw [hb]; simp [fore, Bool.and_assoc]
      · intro hc
        rcases Bool.or_eq_true_iff.mp hc with h1 | h1
        · exact hg h1
        · rw [hh]; simp [has, of_decide_eq_true h1]
    rw [rotuletlaw07_CellFinds.l0, if_pos (by omega), if_pos (by omega), hx0]
    have bf : beforeB a x.f1.f0 = (decide (x.f1.f0 = 18446744073709551615) || decide (x.f1.f0 < a)) := rfl
    by_cases hs : x.f0 = s
    · obtain ⟨e1, e2⟩ := hx x hm hs
      rw [if_pos hs, if_neg (by simp [e1, e2])]
      cases b with
      | true =>
        rw [if_pos rfl]
        by_cases hN : x.f1.f0 = 18446744073709551615
        · rw [if_pos hN]; exact nxt _ _ (by simp [hs]) (by simp [beforeB, hN])
        · rw [if_neg hN]; exact nxt _ _ (by simp [hs]) (by simp [beforeB, hN])
      | false => rw [if_neg (by decide)]; exact nxt _ _ (by simp [hs]) (by simp)
    · rw [if_neg hs]
      cases b with
      | true =>
        rw [if_pos rfl]
        by_cases hN : x.f1.f0 = 18446744073709551615
        · rw [if_pos hN]; exact nxt _ _ (by simp [hs]) (by simp [beforeB, hN])
        · rw [if_neg hN]; exact nxt _ _ (by simp [hs]) (by simp [beforeB, hN])
      | false => rw [if_neg (by decide)]; exact nxt _ _ (by simp [hs]) (by simp)
theorem CellFinds (kind : Int) (l1 : List Int) (l2 : List S41) (s a : Int) : rotuletlaw07_CellFinds.f 50 kind l1 l2 s a = some true := by
  unfold rotuletlaw07_CellFinds.f
  have yes : rotuletlaw07_CellFinds.j0 50 s a true kind l1 l2 = some true := by rw [rotuletlaw07_CellFinds.j0, if_pos rfl]; rfl
  cases hf : rotuletlaw07_Fits.f kind l1 l2 with
  | none => unfold rotuletlaw07_Fits.f at hf; split at hf <;> cases hf
  | some t =>
    rw [Option.bind_some]
    cases t with
    | false => rw [if_neg (by decide)]; exact yes
    | true =>
      have hL : l2.length ≤ 30 := by
        unfold rotuletlaw07_Fits.f at hf
        split at hf
        · have := Option.some.inj hf; simp at this; omega
        · cases hf
      rw [if_pos rfl, cell_Right.f, Option.bind_some]
      split
      · rename_i h2
        cases hz : (decide (l1.length = 0) && decide (l2.length = 0)) with
        | false => exact yes
        | true =>
          have : l2 = [] := by simp at hz; exact hz.2
          subst this
          rw [rotuletlaw07_CellFinds.j0, if_neg (by decide), cell_Find.f, Option.bind_some]
          exact finds_l0 (lst := -1) (by decide) (fun x hx => by cases hx) (fun _ => ⟨rfl, rfl⟩) rfl rfl 0 49 0 false true rfl (by decide) rfl rfl (fun h => by cases h)
      · cases hz : (decide (kind = 1) && decide (l1.length ≤ 100) && decide (l2.length ≤ 4) && rightB (-1) l2) with
        | false => exact yes
        | true =>
          have hR : rightB (-1) l2 = true := by simp at hz; exact hz.2
          rw [rotuletlaw07_CellFinds.j0, if_neg (by decide), cell_Find.f, Option.bind_some]
          exact finds_l0 hL (fun x hx hs => find_at hR x hx hs) find_no (find_has s l2) hR l2.length 49 0 false true (by omega) (by omega) (by simp) (by simp) (fun h => by cases h)
theorem CellFinds.walk (kind : Int) (A1 : Option Addr) (c1 : Nat) (l1 : List Int) (A2 : Option Addr) (c2 : Nat) (l2 : List S41) (s a : Int) (w : World) (_hk : (Lit.int .i64 kind).wf = true)
    (hc1 : l1.length ≤ c1) (hC1 : Kd.C (Kd.int .u8) w A1 l1.length l1) (_hw1 : ∀ x ∈ l1, (Lit.int .u8 x).wf = true) (hc2 : l2.length ≤ c2) (hC2 : Kd.C k41 w A2 l2.length l2) (_hw2 : ∀ x ∈ l2, Cel.Wf41 x)
    (_hs : (Lit.int .i64 s).wf = true) (_ha : (Lit.int .u64 a).wf = true) :
    Calls Try.prog 6 #[.agg #[.int .i64 kind, .slice A1 l1.length c1, .slice A2 l2.length c2], .int .i64 s, .int .u64 a] w fun e w' => e = .returned (.bool true) ∧ Below w.heap.size w w' :=
  rotuletlaw07_CellFinds.calls 50 kind A1 c1 l1 A2 c2 l2 s a true rfl w hC1 hc1 hC2 hc2 (CellFinds kind l1 l2 s a)
end Go.Proofs.Ytknjhmclnnjbnaa.Pure
