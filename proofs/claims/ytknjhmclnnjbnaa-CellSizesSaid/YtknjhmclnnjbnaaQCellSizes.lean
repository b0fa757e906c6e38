/- Proved: for all cells, the law CellSizes answers true. -/
import Derived.Test.YtknjhmclnnjbnaaFnLCellSizes
import Derived.Test.YtknjhmclnnjbnaaCel
import Derived.Test.YtknjhmclnnjbnaaEnc
namespace Go.Proofs.Ytknjhmclnnjbnaa.Pure
open Go.RowKit Go.Proofs.Ytknjhmclnnjbnaa.Fn Go.Proofs.YtknjhmclnnjbnaaW.PrintWords Go.Proofs.YtknjhmclnnjbnaaW.PrintLast Go.Proofs.YtknjhmclnnjbnaaW.PrintMore
theorem nn_of {l : List S41} (h : ∀ x ∈ l, Cel.Wf41 x) : ∀ x ∈ l, Nn x := fun x hx => ⟨(wf_u64 (h x hx).2.1).1, (wf_u64 (h x hx).2.2).1⟩
theorem head_w {n : Nat} (h : n ≤ 4) : wrap64 (Int.tdiv (wrap64 ((wrap64 (12 + (wrap64 (46 * (n : Int))))) + 7)) 8) = (((12 + 46 * n + 7) / 8 : Nat) : Int) := by
  rw [show wrap64 (46 * (n : Int)) = ((46 * n : Nat) : Int) from by unfold wrap64; omega, show wrap64 (12 + ((46 * n : Nat) : Int)) = ((12 + 46 * n : Nat) : Int) from by unfold wrap64; omega,
    show wrap64 (((12 + 46 * n : Nat) : Int) + 7) = ((12 + 46 * n + 7 : Nat) : Int) from by unfold wrap64; omega, show ((12 + 46 * n + 7 : Nat) : Int).tdiv 8 = (((12 + 46 * n + 7) / 8 : Nat) : Int) from tdiv_nat _ 8]
  unfold wrap64; omega
theorem CellSizes (kind : Int) (l1 : List Int) (l : List S41) (hnn : ∀ x ∈ l, Nn x) : rotuletlaw07_CellSizes.f 1000 kind l1 l = some true := by
  unfold rotuletlaw07_CellSizes.f
  have yes : ∀ b, rotuletlaw07_CellSizes.j0 1000 b true kind l1 l = some true := fun b => by rw [rotuletlaw07_CellSizes.j0, if_pos rfl]; rfl
  rcases cases_right kind l1 l with h | ⟨rfl, rfl, rfl, _⟩ | ⟨rfl, h1, h2, hR, _⟩
  · rw [enc_no h]
    unfold rotuletlaw07_Fits.f
    split
    · rw [Option.bind_some, Option.bind_some]
      split <;> exact yes _
    · rw [Option.bind_some, Option.bind_some, if_neg (by decide)]; exact yes _
  · rw [enc_junk, show rotuletlaw07_Fits.f 2 [] [] = some true from rfl, Option.bind_some, Option.bind_some, if_pos rfl, show (([2], (0 : Int)).2 != 0) = false from rfl, rotuletlaw07_CellSizes.j0, if_neg (by decide), if_pos rfl, rotuletlaw07_alive.f, Option.bind_some, if_pos rfl]
    rfl
  · obtain ⟨r, he, hp⟩ := enc_data h1 h2 hR hnn (k := 1000) (by decide)
    have hlen := hp.len
    rw [pos_all] at hlen
    have hf : rotuletlaw07_Fits.f 1 l1 l = some true := by
      unfold rotuletlaw07_Fits.f
      rw [if_pos (by omega), decide_eq_true (by omega)]
    rw [hf, Option.bind_some, he, Option.bind_some, if_pos rfl, show ((r ++ l1, (0 : Int)).2 != 0) = false from rfl, rotuletlaw07_CellSizes.j0, if_neg (by decide), if_neg (by decide)]
    rw [head_w h2, ← hlen, rotuletlaw07_alive.f, Option.bind_some, if_pos rfl, if_pos (by rw [List.length_append, w_add (by omega)]), if_pos (by omega), if_pos (by rw [List.length_append]; omega), Int.toNat_natCast, List.drop_left]
    rw [beq_self_eq_true]
theorem CellSizes.walk (kind : Int) (A1 : Option Addr) (c1 : Nat) (l1 : List Int) (A2 : Option Addr) (c2 : Nat) (l2 : List S41) (w : World) (_hk : (Lit.int .i64 kind).wf = true)
    (hc1 : l1.length ≤ c1) (hC1 : Kd.C (Kd.int .u8) w A1 l1.length l1) (_hw1 : ∀ x ∈ l1, (Lit.int .u8 x).wf = true) (hc2 : l2.length ≤ c2) (hC2 : Kd.C k41 w A2 l2.length l2) (hw2 : ∀ x ∈ l2, Cel.Wf41 x) :
    Calls Try.prog 3 #[.agg #[.int .i64 kind, .slice A1 l1.length c1, .slice A2 l2.length c2]] w fun e w' => e = .returned (.bool true) ∧ Below w.heap.size w w' :=
  rotuletlaw07_CellSizes.calls 1000 kind A1 c1 l1 A2 c2 l2 true rfl w hC1 hc1 hC2 hc2 (CellSizes kind l1 l2 (nn_of hw2))
end Go.Proofs.Ytknjhmclnnjbnaa.Pure
