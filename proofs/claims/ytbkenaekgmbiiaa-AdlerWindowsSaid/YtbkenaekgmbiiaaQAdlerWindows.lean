/- Proved: for all bytes (at most 300), n and any sum, the law AdlerWindows answers true. -/
import Derived.Test.YtbkenaekgmbiiaaWin
namespace Go.Proofs.Ytbkenaekgmbiiaa.Pure
open Go.RowKit Go.Proofs.Ytbkenaekgmbiiaa.Fn Go.Proofs.YtbkenaekgmbiiaaW.PrintWords Go.Proofs.YtbkenaekgmbiiaaW.PrintLast

theorem wf_u32 {x : Int} (h : (Lit.int .u32 x).wf = true) : 0 ≤ x ∧ x < 4294967296 := by
  simp [Lit.wf, IntKind.min, IntKind.max, IntKind.bits, IntKind.signed] at h
  omega

theorem same_l0 (x : List Int) (hl : x.length ≤ 140737488355328) (d : Nat) : ∀ (k i : Nat), i + d = x.length → d < k → rotuletlaw03_same.l0 k x x (i : Int) = some true := by
  induction d with
  | zero =>
    intro k i hi hk
    obtain ⟨k, rfl⟩ : ∃ m, k = m + 1 := ⟨k - 1, by omega⟩
    unfold rotuletlaw03_same.l0
    rw [if_neg (by omega)]
  | succ d ih =>
    intro k i hi hk
    obtain ⟨k, rfl⟩ : ∃ m, k = m + 1 := ⟨k - 1, by omega⟩
    unfold rotuletlaw03_same.l0
    rw [if_pos (by omega), if_pos (by omega), if_pos (by omega), if_pos rfl, w64 (by omega) (by omega), show (i : Int) + 1 = ((i + 1 : Nat) : Int) from by omega]
    exact ih k (i + 1) (by omega) (by omega)

theorem wins_l0 (l : List Int) (n : Int) (hb : Bytes l) (hl : l.length ≤ 300) (d : Nat) :
    ∀ (k i : Nat), i + d = (allWins l n).length → d + 20000 < k → rotuletlaw03_AdlerWindows.l0 k l n (allWins l n) (i : Int) = some true := by
  have hlen := allWins_length l n
  induction d with
  | zero =>
    intro k i hi hk
    obtain ⟨k, rfl⟩ : ∃ m, k = m + 1 := ⟨k - 1, by omega⟩
    unfold rotuletlaw03_AdlerWindows.l0
    rw [if_neg (by omega), alive_f (by omega)]
    rfl
  | succ d ih =>
    intro k i hi hk
    obtain ⟨k, rfl⟩ : ∃ m, k = m + 1 := ⟨k - 1, by omega⟩
    have hlt : i < (allWins l n).length := by omega
    have hd := rd_drop (allWins l n) i hlt
    have hget : (allWins l n)[i]? = some (rd (allWins l n) (i : Int)) := by
      have := congrArg (·[0]?) hd
      simpa using this
    have hmem : rd (allWins l n) (i : Int) ∈ allWins l n := List.mem_of_getElem? hget
    obtain ⟨r, hf, hr, hrr⟩ := fnd_some _ (allWins l n) 0 i hget
    unfold rotuletlaw03_AdlerWindows.l0
    rw [if_pos (by omega), if_pos (by omega), find_all hb (by omega) (by omega) (allWins_bound _ hmem), hf]
    simp only [Option.bind_some, Nat.zero_add]
    have hrd : rd (allWins l n) (r : Int) = rd (allWins l n) (i : Int) := by
      rw [show rd (allWins l n) (r : Int) = (allWins l n).getD r 0 from by simp [Go.Proofs.YtbkenaekgmbiiaaW.PrintWords.rd], List.getD_eq_getElem?_getD, hrr]
      rfl
    rw [if_pos trivial, if_neg (by omega), if_pos (by omega), if_pos (by omega), if_pos hrd, w64 (by omega) (by omega), show (i : Int) + 1 = ((i + 1 : Nat) : Int) from by omega]
    exact ih k (i + 1) (by omega) (by omega)

theorem AdlerWindows : rotuletlaw03_AdlerWindows.Pure := by
  intro l n s hm hl hb hn hs
  have hb := Bytes.of_wf hb
  have hs := wf_u32 hs
  refine ⟨30000, ?_⟩
  unfold rotuletlaw03_AdlerWindows.f
  by_cases h1 : (l.length : Int) > 300
  · rw [if_pos h1, alive_f (by omega)]
    rfl
  · have hlen := allWins_length l n
    rw [if_neg h1, windows_all n hb (by omega) (by omega)]
    simp only [Option.bind_some]
    rw [find_all hb (by omega) (by omega) hs]
    simp only [Option.bind_some]
    rw [ref_find_all hb (by omega) (by omega)]
    simp only [Option.bind_some]
    rw [ref_windows_all n hb (by omega) (by omega)]
    simp only [Option.bind_some]
    unfold rotuletlaw03_same.f
    rw [if_pos rfl]
    have hsame := same_l0 (allWins l n) (by omega) (allWins l n).length 30000 0 (by omega) (by omega)
    simp only [Int.natCast_zero] at hsame
    rw [hsame]
    simp only [Option.bind_some]
    rw [if_pos trivial, if_pos trivial]
    simp only [rotuletlaw03_AdlerWindows.j0]
    rw [if_neg (by simp)]
    exact wins_l0 l n hb (by omega) _ 29999 0 (by rw [Nat.zero_add]) (by omega)

end Go.Proofs.Ytbkenaekgmbiiaa.Pure
