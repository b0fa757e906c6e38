/- What a caller hands over as a cell is read as a kind, a list of bytes, and a list of Backs; conditions: none. -/
import Derived.Test.YtknjhmclnnjbnaaFn0
import Derived.ProofKit
import Derived.OpenShut
import Derived.ChangeOld
import Derived.SizedLaws
import Derived.Lib.SmallJoins
namespace Go.Proofs.Ytknjhmclnnjbnaa.Cel
open Go.ChangeShapes Go.WideShapes Go.ChangeAt Go.RowKit Go.Proofs.Ytknjhmclnnjbnaa.Fn Go.Proofs.YtknjhmclnnjbnaaW.PrintWords Go.Proofs.YtknjhmclnnjbnaaW.PrintLast Go.Proofs.YtknjhmclnnjbnaaW.PrintMore
variable {H : Type} {enc : TypeId × Value → H} {w : World}
/-- A Back's numbers lie in their types. -/
def Wf41 (x : S41) : Prop := (Lit.int .i64 x.f0).wf = true ∧ (Lit.int .u64 x.f1.f0).wf = true ∧ (Lit.int .u64 x.f1.f1).wf = true
theorem len3 {l : List Value} (h : l.length = 3) : ∃ a b c, l = [a, b, c] := by
  match l, h with
  | [a, b, c], _ => exact ⟨a, b, c, rfl⟩
theorem read_back {n : Nat} {cs : List Value} {y : DataW H × List MemPlace} (h : DataW.trod enc Try.prog w 0 (fun _ => true) true n 41 cs = some y) :
    ∃ x : S41, cs = [.int .i64 x.f0, .int .u64 x.f1.f0, .int .u64 x.f1.f1] ∧ Wf41 x := by
  obtain ⟨y0, y1, m, _, hl, h0, h1⟩ := trod_struct2 Try.underlying41 h
  rw [show Try.prog.cellsOf 41 = 3 from by kernel_rfl] at hl
  obtain ⟨a, b, c, rfl⟩ := len3 hl
  dsimp only at h0 h1
  rw [show Try.prog.cellsOf 3 = 1 from by kernel_rfl] at h0
  rw [show Try.prog.cellsOf 37 = 2 from by kernel_rfl] at h1
  obtain ⟨s, e0, _, w0⟩ := DataW.trod_int Try.underlying3 h0
  obtain ⟨xs, p, _, _, _, hx, h2⟩ := DataW.trod_array Try.underlying37 h1
  rw [show Try.prog.cellsOf 36 = 1 from by kernel_rfl] at h2
  have q0 := h2 0 (by decide)
  have q1 := h2 1 (by decide)
  obtain ⟨z0, f0⟩ : ∃ z, xs[0]? = some z := ⟨_, List.getElem?_eq_getElem (by omega)⟩
  obtain ⟨z1, f1⟩ : ∃ z, xs[1]? = some z := ⟨_, List.getElem?_eq_getElem (by omega)⟩
  rw [f0] at q0
  rw [f1] at q1
  obtain ⟨u, e1, _, w1⟩ := DataW.trod_int Try.underlying36 q0
  obtain ⟨v, e2, _, w2⟩ := DataW.trod_int Try.underlying36 q1
  simp at e0 e1 e2
  subst e0 e1 e2
  exact ⟨⟨s, ⟨u, v⟩⟩, rfl, w0, w1, w2⟩
theorem list_of {P : Nat → S41 → Prop} {n : Nat} (h : ∀ i, i < n → ∃ x, P i x) : ∃ l : List S41, l.length = n ∧ ∀ i x, l[i]? = some x → P i x := by
  induction n with
  | zero => exact ⟨[], rfl, fun i x hx => by simp at hx⟩
  | succ n ih =>
    obtain ⟨l, hl, hp⟩ := ih fun i hi => h i (by omega)
    obtain ⟨x, hx⟩ := h n (by omega)
    refine ⟨l ++ [x], by simp [hl], fun i z hz => ?_⟩
    by_cases hi : i < l.length
    · rw [List.getElem?_append_left hi] at hz
      exact hp i z hz
    · rw [List.getElem?_append_right (by omega)] at hz
      have : i = n := by
        rcases Nat.lt_or_ge (i - l.length) 1 with q | q
        · omega
        · rw [List.getElem?_eq_none (by simpa using q)] at hz; cases hz
      subst this
      rw [hl, Nat.sub_self] at hz
      simp at hz
      exact hz ▸ hx
theorem read_backs {n : Nat} {cs : List Value} {y : DataW H × List MemPlace} (h : DataW.trod enc Try.prog w 0 (fun _ => true) true n 24 cs = some y) :
    ∃ (A : Option Addr) (c : Nat) (l : List S41), cs = [.slice A l.length c] ∧ l.length ≤ c ∧ Kd.C k41 w A l.length l ∧ ∀ x ∈ l, Wf41 x := by
  rcases DataW.trod_slice Try.underlying24 h with ⟨e, _⟩ | ⟨a, len, cap, elems, rest, m, _, e, _, hb, hl, hm, hlen, hel, _, _⟩
  · exact ⟨none, 0, [], e, Nat.le_refl _, Kd.C_nil _ _, fun x hx => by cases hx⟩
  · rw [show Try.prog.cellsOf 41 = 3 from by kernel_rfl] at hel
    obtain ⟨l, hll, hp⟩ := list_of (P := fun i x => w.cells? 0 (a.add (i * 3)) 3 = some [.int .i64 x.f0, .int .u64 x.f1.f0, .int .u64 x.f1.f1] ∧ Wf41 x) (n := len) (fun i hi => by
      have q := hel i hi
      obtain ⟨z, hz⟩ : ∃ z, elems[i]? = some z := ⟨_, List.getElem?_eq_getElem (by omega)⟩
      rw [hz, Option.bind_eq_some_iff] at q
      obtain ⟨cs', hc, ht⟩ := q
      obtain ⟨x, rfl, hw⟩ := read_back ht
      exact ⟨x, hc, hw⟩)
    subst hll
    refine ⟨some a, cap, l, e, hl, ⟨rfl, Nat.le_trans hl (Nat.le_trans hm (by decide)), fun _ => ⟨a, rfl, fun j p hj => ?_⟩⟩, fun x hx => ?_⟩
    · obtain ⟨hc, _⟩ := hp j p hj
      obtain ⟨_, _, hcell⟩ := World.cells?_some hc
      refine ⟨_, rfl, k41_mk w p, fun i u hu => ?_⟩
      have hi : i < 3 := by
        rcases Nat.lt_or_ge i 3 with q | q
        · exact q
        · rw [List.getElem?_eq_none (by simpa using q)] at hu; cases hu
      have := hcell i hi
      rw [Addr.add_add] at this
      exact this.trans hu
    · obtain ⟨i, hi⟩ := List.getElem?_of_mem hx
      exact (hp i x hi).2
theorem read_cell {base : Nat} {v : Value} {d : DataW H} {p : List MemPlace} (hv : Value.okWide Try.prog w .any base 26 v) (h : DataW.Trod enc Try.prog w 0 (fun _ => true) true 26 v d p) :
    ∃ (kind : Int) (A1 : Option Addr) (c1 : Nat) (l1 : List Int) (A2 : Option Addr) (c2 : Nat) (l2 : List S41), v = .agg #[.int .i64 kind, .slice A1 l1.length c1, .slice A2 l2.length c2] ∧ (Lit.int .i64 kind).wf = true ∧
      l1.length ≤ c1 ∧ Kd.C (Kd.int .u8) w A1 l1.length l1 ∧ (∀ x ∈ l1, (Lit.int .u8 x).wf = true) ∧ l2.length ≤ c2 ∧ Kd.C k41 w A2 l2.length l2 ∧ ∀ x ∈ l2, Wf41 x := by
  obtain ⟨v0, v1, v2, y0, y1, y2, n, rfl, _, _, g0, g1, g2⟩ := Go.Joins.open_agg3 Try.underlying26 (by kernel_rfl) (by kernel_rfl) hv h
  obtain ⟨kind, e0, _, hk⟩ := DataW.trod_int Try.underlying22 g0
  obtain ⟨A2, c2, l2, e2, hc2, hC2, hw2⟩ := read_backs g2
  have g1' : ∃ (A1 : Option Addr) (len c1 : Nat) (zs : List Int), v1 = .slice A1 len c1 ∧ ((A1 = none ∧ len = 0 ∧ c1 = 0 ∧ zs = []) ∨
      ∃ x, A1 = some x ∧ len ≤ c1 ∧ c1 ≤ maxLen ∧ zs.length = c1 ∧ (∀ i, i < zs.length → w.cell? (x.add i) = some (.int .u8 (zs.getD i 0))) ∧ ∀ n ∈ zs, (Lit.int .u8 n).wf = true) := by
    rcases open_ints Try.underlying23 Try.underlying5 (by kernel_rfl) g1 with ⟨hcs, _⟩ | ⟨x, l, c, zs, hcs, _, hl, hm, hz, _, hcell, hwz⟩
    · simp at hcs
      exact ⟨none, 0, 0, [], hcs, .inl ⟨rfl, rfl, rfl, rfl⟩⟩
    · simp at hcs
      exact ⟨_, l, c, zs, hcs, .inr ⟨_, rfl, hl, hm, by simpa using hz, hcell, hwz⟩⟩
  obtain ⟨A1, len, c1, zs, rfl, hrow⟩ := g1'
  obtain ⟨l1, rfl, hr1, hm1, hw1, hc1⟩ := ReadsInt.ofRowC hrow
  simp at e0 e2
  subst e0 e2
  exact ⟨kind, A1, c1, l1, A2, c2, l2, rfl, hk, hc1, Kd.C_of_reads (d := (0 : Int)) (h1 := fun _ => rfl) hr1, hw1, hc2, hC2, hw2⟩
end Go.Proofs.Ytknjhmclnnjbnaa.Cel
