/- Proved: for all widths and numbers, the law BitsPacked answers true. -/
import Derived.Test.YtfjcanleekmagaaFnLBitsPacked
import Derived.Test.YtfjcanleekmagaaUnp
namespace Go.Proofs.Ytfjcanleekmagaa.Pure
open Go.RowKit Go.Proofs.Ytfjcanleekmagaa.Fn Go.Proofs.YtfjcanleekmagaaW.PrintWords Go.Proofs.YtfjcanleekmagaaW.PrintLast Go.Proofs.YtfjcanleekmagaaW.PrintMore

theorem packed_num {ws vs r : List Int} (h : Packed ws vs r) {i : Nat} (hi : i < ws.length) (hf : Fit ws vs i) : num (bitAt r) (pos ws i) (wn ws i) = wn vs i := by
  symm; apply num_of; intro t
  by_cases ht : t < wn ws i
  · rw [h.bit i _ hi (by omega), decide_eq_true ht, Bool.true_and]
    congr 1; omega
  · rw [decide_eq_false ht, Bool.false_and]
    exact Nat.testBit_lt_two_pow (Nat.lt_of_lt_of_le hf.2.2 (Nat.pow_le_pow_right (by decide) (by omega)))
theorem packed_fine {ws vs r : List Int} (h : Packed ws vs r) (hf : ∀ i, i < ws.length → Fit ws vs i) : Fine ws r := by
  refine ⟨fun i hi => ⟨(hf i hi).1, (hf i hi).2.1, ?_⟩, h.len.symm, h.rest⟩
  have h1 : pos ws (i + 1) ≤ pos ws ws.length := pos_mono ws (by omega)
  have h2 : pos ws (i + 1) = pos ws i + wn ws i := rfl
  have := h.len
  omega
theorem packed_outs {ws vs r : List Int} (hv : V8 vs) (hl : ws.length = vs.length) (h : Packed ws vs r) (hf : ∀ i, i < ws.length → Fit ws vs i) : outs (bitAt r) ws ws.length = vs := by
  apply List.ext_getElem (by rw [outs_len, hl])
  intro i h1 h2
  have hi : i < ws.length := by omega
  have e := outs_get (bitAt r) ws ws.length hi
  rw [List.getElem?_eq_getElem h1, packed_num h hi (hf i hi), ← (hv.nat i).1, List.getD_eq_getElem?_getD, List.getElem?_eq_getElem h2] at e
  exact Option.some.inj e
theorem packed_l0 {ws vs r : List Int} (hv : V8 vs) (hl : ws.length = vs.length) (hL : ws.length ≤ 60) (h : Packed ws vs r) (hf : ∀ i, i < ws.length → Fit ws vs i) : ∀ (d k i : Nat), d + 1000 < k → i + d = ws.length →
    rotuletlaw01_BitsPacked.l0 k ws vs r ((pos ws i : Nat) : Int) (i : Int) = some true := by
  have hT : pos ws ws.length ≤ 64 * ws.length := pos_le (fun i hi => (hf i hi).nat.2) ws.length (Nat.le_refl _)
  have hr := h.len
  have hrL : r.length ≤ 500 := by omega
  intro d
  induction d with
  | zero =>
    intro k i hk hi
    obtain ⟨k, rfl⟩ : ∃ j, k = j + 1 := ⟨k - 1, by omega⟩
    have hi : i = ws.length := hi
    subst hi
    have hb : Byt (r ++ [0]) := fun x hx => (List.mem_append.mp hx).elim (h.byt x) (fun e => by rw [List.mem_singleton.mp e]; decide)
    have hlen : (r ++ [0]).length = r.length + 1 := by rw [List.length_append]; rfl
    have hn : ¬ Fine ws (r ++ [0]) := fun g => by
      have := g.len
      rw [hlen] at this; omega
    rw [rotuletlaw01_BitsPacked.l0, if_neg (by omega), Option.bind_some, if_pos (by simp only [List.length_nil]; omega), Option.bind_some, List.nil_append, if_pos (by omega), unpack_no hb (by rw [hlen]; omega) hL hn (by omega), Option.bind_some, alive_f (by omega), Option.bind_some, if_pos rfl]
    dsimp only
    have e1 : wrap64 (8 * (r.length : Int)) = 8 * (r.length : Int) := w64 (by omega) (by omega)
    have e2 : wrap64 (((pos ws ws.length : Nat) : Int) + 8) = ((pos ws ws.length : Nat) : Int) + 8 := w64 (by clear e1; omega) (by clear e1; omega)
    rw [if_neg (by decide), e1, e2, if_pos (by clear e1 e2; omega), decide_eq_true (by clear e1 e2; omega)]
  | succ d ih =>
    intro k i hk hi
    obtain ⟨k, rfl⟩ : ∃ j, k = j + 1 := ⟨k - 1, by omega⟩
    have o1 : i < ws.length := by omega
    have o2 : i < vs.length := by omega
    have o3 : i < 100000000 := by omega
    obtain ⟨f1, f2⟩ := (hf i o1).nat
    have hin := (packed_fine h hf).ins i o1
    have o4 : pos ws i + wn ws i ≤ 100000000 := by have := hin.2.2; omega
    rw [rotuletlaw01_BitsPacked.l0, if_pos (nat_lt o2), if_pos (nat_nn _), if_pos (nat_lt o1), rd_nat, rd_nat, f1, get_ok h.byt (by omega) (by omega) f2 hin.2.2, Option.bind_some]
    dsimp only
    rw [if_pos rfl, packed_num h o1 (hf i o1), (hv.nat i).1, if_pos rfl, w_add o4, w_succ o3]
    exact ih k (i + 1) (by omega) (by omega)
theorem BitsPacked : rotuletlaw01_BitsPacked.Pure := by
  intro ws vs _ _ _ _ _ hv
  have hv : V8 vs := getD_all (fun x hx => wf_u64 (hv x hx)) (by decide)
  refine ⟨50002, ?_⟩
  have yes : rotuletlaw01_BitsPacked.j0 50002 ws vs true = some true := by
    rw [rotuletlaw01_BitsPacked.j0, if_pos rfl, alive_t (by decide)]
  unfold rotuletlaw01_BitsPacked.f
  split
  · exact yes
  · by_cases h : (vs.length : Int) > 60
    · rw [decide_eq_true h]; exact yes
    · have o1 : ws.length ≤ 60 := by omega
      rw [decide_eq_false h, rotuletlaw01_BitsPacked.j0, if_neg (by decide)]
      have no : bits_Pack.f 50001 ws vs = some ([], false) → ((bits_Pack.f 50001 ws vs).bind fun bt150 => (if bt150.2 = true then ((bits_Unpack.f 50001 ws bt150.1).bind fun bt155 => ((rotuletlaw01_same.f 50001 bt155.1 vs).bind fun t159 => (if bt155.2 = true then (rotuletlaw01_BitsPacked.j1 50001 ws vs bt150.1 (!t159)) else (rotuletlaw01_BitsPacked.j1 50001 ws vs bt150.1 true)))) else ((rotuletlaw01_alive.f 50001).bind fun t154 => (if t154 = true then (some ((bt150.1.length : Int) == 0)) else (some false))))) = some true := by
        intro e
        rw [e, Option.bind_some]
        dsimp only
        rw [if_neg (by decide), alive_f (by decide), Option.bind_some, if_pos rfl]; rfl
      by_cases hl : ws.length = vs.length
      · by_cases hf : ∀ j, j < ws.length → Fit ws vs j
        · obtain ⟨r, r1, r2⟩ := pack_ok hv hl o1 hf (k := 50001) (by decide)
          have hT : pos ws ws.length ≤ 64 * ws.length := pos_le (fun i hi => (hf i hi).nat.2) ws.length (Nat.le_refl _)
          have hr := r2.len
          rw [r1, Option.bind_some]
          dsimp only
          rw [if_pos rfl, unpack_ok r2.byt (by omega) o1 (packed_fine r2 hf) (by decide), Option.bind_some]
          dsimp only
          rw [packed_outs hv hl r2 hf, same_f (by omega) (by decide), Option.bind_some, if_pos rfl, show (!true) = false from rfl, rotuletlaw01_BitsPacked.j1, if_neg (by decide)]
          exact packed_l0 hv hl o1 r2 hf ws.length 50000 0 (by omega) (Nat.zero_add _)
        · have : ∃ j, j < ws.length ∧ ¬ Fit ws vs j := by
            apply Classical.byContradiction
            intro hh
            exact hf fun i hi => Classical.byContradiction fun hn => hh ⟨i, hi, hn⟩
          exact no (pack_no hv hl o1 this (by decide))
      · exact no (by unfold bits_Pack.f; rw [if_neg (by omega)])
end Go.Proofs.Ytfjcanleekmagaa.Pure
