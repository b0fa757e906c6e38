/- Proved: for all bytes (at most 4000), a place and a byte, the law AdlerOne answers true. -/
import Derived.Test.YtbkenaekgmbiiaaFn7
import Derived.Test.YtbkenaekgmbiiaaWin
namespace Go.Proofs.Ytbkenaekgmbiiaa.Pure
open Go.RowKit Go.Proofs.Ytbkenaekgmbiiaa.Fn Go.Proofs.YtbkenaekgmbiiaaW.PrintWords Go.Proofs.YtbkenaekgmbiiaaW.PrintLast

theorem wf_i64 {x : Int} (h : (Lit.int .i64 x).wf = true) : -9223372036854775808 ≤ x ∧ x < 9223372036854775808 := by
  simp [Lit.wf, IntKind.min, IntKind.max, IntKind.bits, IntKind.signed] at h
  omega
theorem wf_u8 {x : Int} (h : (Lit.int .u8 x).wf = true) : 0 ≤ x ∧ x ≤ 255 := by
  simp [Lit.wf, IntKind.min, IntKind.max, IntKind.bits, IntKind.signed] at h
  omega

theorem SS_set : ∀ (l : List Int) (i : Nat) (v : Int), i < l.length → SS (l.set i v) = SS l - rd l (i : Int) + v
  | [], i, v, h => by simp at h
  | c :: t, 0, v, _ => by simp [SS, Go.Proofs.YtbkenaekgmbiiaaW.PrintWords.rd]; omega
  | c :: t, i + 1, v, h => by
    have := SS_set t i v (by simpa using h)
    simp only [List.set_cons_succ, SS, this]
    have : rd (c :: t) ((i + 1 : Nat) : Int) = rd t (i : Int) := by simp [Go.Proofs.YtbkenaekgmbiiaaW.PrintWords.rd]
    rw [this]
    omega
theorem set_bytes {l : List Int} (h : Bytes l) (i : Nat) {v : Int} (hv : 0 ≤ v ∧ v ≤ 255) : Bytes (l.set i v) := by
  intro x hx
  rcases List.mem_or_eq_of_mem_set hx with h1 | h1
  · exact h x h1
  · rw [h1]; exact hv
theorem set_self : ∀ (l : List Int) (i : Nat), i < l.length → l.set i (rd l (i : Int)) = l := by
  intro l i h
  have : rd l (i : Int) = l[i] := by
    unfold Go.Proofs.YtbkenaekgmbiiaaW.PrintWords.rd
    rw [List.getD_eq_getElem?_getD, Int.toNat_natCast, List.getElem?_eq_getElem h]
    rfl
  rw [this, List.set_getElem_self]

theorem one_at {l : List Int} (hb : Bytes l) {i : Nat} (h : i < l.length) {v : Int} (hv : 0 ≤ v ∧ v ≤ 255) :
    ((sumOf l == sumOf (l.set i v)) == (v == rd l (i : Int))) = true := by
  by_cases e : v = rd l (i : Int)
  · subst e
    rw [set_self l i h]
    simp
  · have hne : sumOf l ≠ sumOf (l.set i v) := by
      intro he
      have h1 := enc_low (1 + SS l) ((l.length : Int) + TT l)
      have h2 := enc_low (1 + SS (l.set i v)) (((l.set i v).length : Int) + TT (l.set i v))
      unfold sumOf at he
      rw [he, h2, SS_set l i v h] at h1
      have := hb.rd (i : Int)
      omega
    have e1 : (sumOf l == sumOf (l.set i v)) = false := beq_eq_false_iff_ne.2 hne
    have e2 : (v == rd l (i : Int)) = false := beq_eq_false_iff_ne.2 e
    rw [e1, e2]
    rfl

theorem AdlerOne : rotuletlaw03_AdlerOne.Pure := by
  intro l a v hm hl hb ha hv
  have hb := Bytes.of_wf hb
  have ha := wf_i64 ha
  have hv := wf_u8 hv
  refine ⟨30000, ?_⟩
  unfold rotuletlaw03_AdlerOne.f
  by_cases h0 : (l.length : Int) = 0
  · rw [if_pos h0]
    simp only [rotuletlaw03_AdlerOne.j0]
    rw [if_pos trivial, alive_f (by omega)]
    rfl
  · rw [if_neg h0]
    simp only [rotuletlaw03_AdlerOne.j0]
    by_cases h1 : (l.length : Int) > 4000
    · rw [if_pos (by simpa using h1), alive_f (by omega)]
      rfl
    · rw [if_neg (by simpa using h1)]
      simp only [Option.bind_some, List.nil_append, List.length_nil, Nat.zero_add]
      have key : ∀ b : Int, 0 ≤ b → b < (l.length : Int) →
          (rotuletlaw03_alive.f 29999).bind (fun t132 => (if t132 = true then ((adler_Sum.f 29999 l).bind fun t133 => ((adler_Sum.f 29999 (l.set b.toNat v)).bind fun t134 => (if b < (l.length : Int) then (some ((t133 == t134) == (v == (rd l b)))) else (none)))) else (some false))) = some true := by
        intro b hb0 hb1
        obtain ⟨i, rfl⟩ : ∃ i : Nat, b = (i : Int) := ⟨b.toNat, by omega⟩
        rw [alive_f (by omega)]
        simp only [Option.bind_some, Int.toNat_natCast]
        rw [if_pos trivial, sum_of (by omega) hb (by omega)]
        simp only [Option.bind_some]
        rw [sum_of (by simp; omega) (set_bytes hb i hv) (by simp; omega)]
        simp only [Option.bind_some]
        rw [if_pos hb1, one_at hb (by omega) hv]
      have tm : ∀ x : Int, 0 ≤ x → 0 ≤ x.tmod (l.length : Int) ∧ x.tmod (l.length : Int) < (l.length : Int) := fun x hx => by
        rw [tmod_in hx]
        exact ⟨Int.emod_nonneg _ h0, Int.emod_lt_of_pos _ (by omega)⟩
      by_cases h2 : a < 0
      · rw [if_pos h2, if_pos (by omega), if_neg h0, w64 (x := a + 1) (by omega) (by omega), w64 (by omega) (by omega)]
        obtain ⟨t0, t1⟩ := tm (-(a + 1)) (by omega)
        rw [if_pos t0, if_pos t1]
        exact key _ t0 t1
      · rw [if_neg h2, if_pos (by omega), if_neg h0]
        obtain ⟨t0, t1⟩ := tm a (by omega)
        rw [if_pos t0, if_pos t1]
        exact key _ t0 t1

end Go.Proofs.Ytbkenaekgmbiiaa.Pure
