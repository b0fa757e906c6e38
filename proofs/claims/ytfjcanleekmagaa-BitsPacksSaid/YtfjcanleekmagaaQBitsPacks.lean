/- Proved: for all widths, numbers and byte lists, the law BitsPacks answers true. -/
import Derived.Test.YtfjcanleekmagaaFnLBitsPacks
import Derived.Test.YtfjcanleekmagaaUnp
namespace Go.Proofs.Ytfjcanleekmagaa.Pure
open Go.RowKit Go.Proofs.Ytfjcanleekmagaa.Fn Go.Proofs.YtfjcanleekmagaaW.PrintWords Go.Proofs.YtfjcanleekmagaaW.PrintLast Go.Proofs.YtfjcanleekmagaaW.PrintMore

theorem packs_same {ws vs : List Int} (hv : V8 vs) (hL : ws.length ≤ 60) {k : Nat} (hk : 40000 < k) : ∃ r b, bits_Pack.f k ws vs = some (r, b) ∧ rotuletref01_Pack.f k ws vs = some (r, b) := by
  by_cases hl : ws.length = vs.length
  · by_cases hf : ∀ j, j < ws.length → Fit ws vs j
    · obtain ⟨r, r1, r2⟩ := pack_ok hv hl hL hf (k := k) (by omega)
      obtain ⟨s, s1, s2⟩ := refpack_ok hv hl hL hf (k := k) (by omega)
      exact ⟨r, true, r1, by rw [s1, s2.one r2]⟩
    · have : ∃ j, j < ws.length ∧ ¬ Fit ws vs j := by
        apply Classical.byContradiction
        intro hh
        exact hf fun i hi => Classical.byContradiction fun hn => hh ⟨i, hi, hn⟩
      exact ⟨[], false, pack_no hv hl hL this (by omega), refpack_no hv hl hL this (by omega)⟩
  · refine ⟨[], false, ?_, ?_⟩
    · unfold bits_Pack.f; rw [if_neg (by omega)]
    · unfold rotuletref01_Pack.f; rw [if_neg (by omega)]
theorem unpacks_same {ws b : List Int} (hb : Byt b) (hL : b.length ≤ 1000) (hw : ws.length ≤ 60) {k : Nat} (hk : 40000 < k) : ∃ r c, bits_Unpack.f k ws b = some (r, c) ∧ rotuletref01_Unpack.f k ws b = some (r, c) ∧ r.length ≤ 1000 := by
  by_cases h : Fine ws b
  · exact ⟨_, true, unpack_ok hb hL hw h (by omega), (refunpack hb hL hw hk).1 h, by rw [outs_len]; omega⟩
  · exact ⟨[], false, unpack_no hb hL hw h (by omega), (refunpack hb hL hw hk).2 h, by simp⟩
theorem BitsPacks : rotuletlaw01_BitsPacks.Pure := by
  intro ws vs b _ _ _ _ _ hv _ _ hb
  have hb : Byt b := fun x hx => wf_u8 (hb x hx)
  have hv : V8 vs := getD_all (fun x hx => wf_u64 (hv x hx)) (by decide)
  refine ⟨50001, ?_⟩
  have yes : rotuletlaw01_BitsPacks.j0 50001 ws vs b true = some true := by
    rw [rotuletlaw01_BitsPacks.j0, if_pos rfl, alive_t (by decide)]
  unfold rotuletlaw01_BitsPacks.f
  split
  · exact yes
  · split
    · exact yes
    · by_cases h : (b.length : Int) > 300
      · rw [decide_eq_true h]; exact yes
      · have o1 : ws.length ≤ 60 := by omega
        have o2 : b.length ≤ 1000 := by omega
        obtain ⟨r, c, p1, p2⟩ := packs_same hv o1 (k := 50000) (by decide)
        obtain ⟨u, d, u1, u2, u3⟩ := unpacks_same hb o2 o1 (k := 50000) (by decide)
        rw [decide_eq_false h, rotuletlaw01_BitsPacks.j0, if_neg (by decide), p1, Option.bind_some, p2, Option.bind_some, u1, Option.bind_some, u2, Option.bind_some, alive_f (by decide), Option.bind_some, if_pos rfl, if_pos rfl, if_pos (by simp), same_f u3 (by decide), Option.bind_some, if_pos rfl]
        simp
end Go.Proofs.Ytfjcanleekmagaa.Pure
