/- Proved: for all cells and bytes, what the calls of the law CellBack come to makes it answer true. -/
import Derived.Test.YtknjhmclnnjbnaaFnLCellBack
import Derived.Test.YtknjhmclnnjbnaaCel
import Derived.Test.YtknjhmclnnjbnaaBak
namespace Go.Proofs.Ytknjhmclnnjbnaa.Pure
open Go.RowKit Go.Proofs.Ytknjhmclnnjbnaa.Fn Go.Proofs.YtknjhmclnnjbnaaW.PrintWords Go.Proofs.YtknjhmclnnjbnaaW.PrintLast Go.Proofs.YtknjhmclnnjbnaaW.PrintMore
theorem enc_len {k : Nat} (hk : 500 < k) {kd : Int} {d : List Int} {b : List S41} (hnn : ∀ x ∈ b, Nn x) {y : List Int} (h : cell_Encode.f k kd d b = some (y, 0)) : 0 < y.length ∧ y.length ≤ 1000 := by
  rcases enc_head hk hnn h with rfl | ⟨h1, h2, _, _⟩
  · exact ⟨by decide, by decide⟩
  · exact ⟨by omega, h2⟩
theorem back_facts (kind : Int) (l1 : List Int) (l2 : List S41) (b : List Int) (h1 : Byt l1) (h2 : ∀ x ∈ l2, Nn x) (hb : Byt b) (hf : l2.length ≤ 30) (hL : b.length ≤ 400) : BackFacts 1000 kind l1 l2 b := by
  refine ⟨?_, ?_⟩
  · obtain ⟨zk, zd, zb, g, e, hg⟩ := dec_f hb (by omega) (k := 1000) (by decide)
    refine ⟨zk, zd, zb, g, e, fun h0 => ?_⟩
    rcases hg with ⟨_, q, _⟩ | q
    · exact ⟨q, right_of q⟩
    · rw [q] at h0; exact absurd h0 (by decide)
  · obtain ⟨x, e, hx⟩ := enc_some kind l1 l2 h2 (k := 1000) (by decide)
    refine ⟨x, e, hx, ?_, fun h0 => ?_⟩
    · rcases cases_right kind l1 l2 with q | ⟨rfl, rfl, rfl, _⟩ | ⟨rfl, p1, p2, p3, _⟩
      · rw [enc_no q] at hx; cases hx; exact .inr ⟨rfl, q⟩
      · rw [enc_junk] at hx; cases hx; exact .inl rfl
      · obtain ⟨r, he, _⟩ := enc_data p1 p2 p3 h2 (k := 1000) (by decide)
        rw [he] at hx; cases hx; exact .inl rfl
    · subst h0
      obtain ⟨p0, p1⟩ := enc_len (by decide) h2 hx
      have hbx := enc_byt h1 h2 (by decide) hx
      have hxs : x.take (x.length - 1) ++ [x.getD (x.length - 1) 0] = x := by
        have q : x.drop (x.length - 1) = [x.getD (x.length - 1) 0] := by
          rw [List.drop_eq_getElem_cons (by omega), List.drop_eq_nil_of_le (by omega), List.getD_eq_getElem?_getD, List.getElem?_eq_getElem (by omega)]
          rfl
        rw [← q, List.take_append_drop]
      refine ⟨p0, by omega, dec_enc (by decide) h1 h2 hx, ?_, ?_, ?_⟩
      · refine dec_no (fun y hy => hbx y (List.mem_of_mem_take hy)) (by rw [List.length_take]; omega) (by decide) (fun zk zd zb hz he => ?_)
        rw [← hxs] at hx
        exact enc_less (by decide) h2 hz hx he
      · refine dec_no (byt_app hbx (fun y hy => by simp at hy; omega)) (by rw [List.length_append]; simp only [List.length_cons, List.length_nil]; omega) (by decide) (fun zk zd zb hz he => ?_)
        exact enc_more (by decide) h2 hz hx he
      · obtain ⟨s, hs, hq⟩ := same_f (ka := kind) (kb := kind) (l := l2) (m := l2) h1 h1 hf (k := 1000) (by decide)
        rw [hs, hq.mpr ⟨rfl, rfl, rfl⟩]
theorem CellBack.walk (kind : Int) (A1 : Option Addr) (c1 : Nat) (l1 : List Int) (A2 : Option Addr) (c2 : Nat) (l2 : List S41) (B : Option Addr) (len cb : Nat) (zs : List Int) (w : World) (_hk : (Lit.int .i64 kind).wf = true)
    (hc1 : l1.length ≤ c1) (hC1 : Kd.C (Kd.int .u8) w A1 l1.length l1) (hw1 : ∀ x ∈ l1, (Lit.int .u8 x).wf = true) (hc2 : l2.length ≤ c2) (hC2 : Kd.C k41 w A2 l2.length l2) (hw2 : ∀ x ∈ l2, Cel.Wf41 x)
    (hB : (B = none ∧ len = 0 ∧ cb = 0 ∧ zs = []) ∨ ∃ x, B = some x ∧ len ≤ cb ∧ cb ≤ maxLen ∧ zs.length = cb ∧ (∀ i, i < zs.length → w.cell? (x.add i) = some (.int .u8 (zs.getD i 0))) ∧ ∀ n ∈ zs, (Lit.int .u8 n).wf = true) (_y : len * 1 ≤ 140737488351232) :
    Calls Try.prog 4 #[.agg #[.int .i64 kind, .slice A1 l1.length c1, .slice A2 l2.length c2], .slice B len cb] w fun e w' => e = .returned (.bool true) ∧ Below w.heap.size w w' := by
  obtain ⟨b, rfl, hr, _, hw, hc⟩ := ReadsInt.ofRowC hB
  obtain ⟨t, ht, htq⟩ := fits_f kind l1 l2
  exact rotuletlaw07_CellBack.calls 1000 kind A1 c1 l1 A2 c2 l2 B cb b t w hC1 hc1 hC2 hc2 (Kd.C_of_reads (d := (0 : Int)) (h1 := fun _ => rfl) hr) hc ht
    (fun h hL => back_facts kind l1 l2 b (fun x hx => wf_u8 (hw1 x hx)) (nn_of hw2) (fun x hx => wf_u8 (hw x hx)) (htq.mp h).2 hL)
end Go.Proofs.Ytknjhmclnnjbnaa.Pure
