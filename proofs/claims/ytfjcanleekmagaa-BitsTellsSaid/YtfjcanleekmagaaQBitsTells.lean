/- Proved: for all byte lists, any place and number, the law BitsTells answers true. -/
import Derived.Test.YtfjcanleekmagaaFnLBitsTells
import Derived.Test.YtfjcanleekmagaaTells
namespace Go.Proofs.Ytfjcanleekmagaa.Pure
open Go.RowKit Go.Proofs.Ytfjcanleekmagaa.Fn Go.Proofs.YtfjcanleekmagaaW.PrintWords Go.Proofs.YtfjcanleekmagaaW.PrintLast Go.Proofs.YtfjcanleekmagaaW.PrintMore

theorem puts_same {l : List Int} (hl : Byt l) (hL : l.length ≤ 300) {a n : Int} {v : Nat} (hv : v < 18446744073709551616) :
    ∃ r b, bits_Put.f 9000 l a n (v : Int) = some (r, b) ∧ rotuletref01_Put.f 9000 l a n (v : Int) = some (r, b) := by
  have hL' : l.length ≤ 1000000 := by omega
  by_cases h : Ok l a n
  · unfold Ok at h
    obtain ⟨a, rfl⟩ := Int.eq_ofNat_of_zero_le (a := a) (by omega)
    obtain ⟨n, rfl⟩ := Int.eq_ofNat_of_zero_le (a := n) (by omega)
    have o1 : n ≤ 64 := by omega
    have o2 : a + n ≤ 8 * l.length := by omega
    obtain ⟨r, e1, e2, e3, e4⟩ := put_ok (v := v) hl hL' (k := 9000) (by decide) o1 o2
    obtain ⟨s, d1, d2, d3, d4⟩ := refput_f hl (by omega) (k := 9000) (by omega) o1 o2 hv
    have : s = r := same_bits d3 e3 (by omega) (fun j hj => by rw [d4 j (by omega), e4])
    exact ⟨r, true, e1, by rw [d1, this]⟩
  · exact ⟨[], false, put_no hL' h, refput_no hL' h⟩
theorem tells_f {l : List Int} (hl : Byt l) {a n v : Int} (hv : 0 ≤ v ∧ v < 18446744073709551616) : rotuletlaw01_BitsTells.f 9000 l a n v = some true := by
  unfold rotuletlaw01_BitsTells.f
  split
  · exact alive_t (by decide)
  · rename_i h
    have hL : l.length ≤ 300 := by omega
    have hL' : l.length ≤ 1000000 := by omega
    obtain ⟨v, rfl⟩ := Int.eq_ofNat_of_zero_le (a := v) (by omega)
    have hvN : v < 18446744073709551616 := by omega
    obtain ⟨r, b, p1, p2⟩ := puts_same hl hL (a := a) (n := n) hvN
    rw [Option.bind_some, if_pos (by simp only [List.length_nil]; omega), Option.bind_some, List.nil_append, get_f hl hL' (by decide), Option.bind_some, refget_f hl hL' (by decide), Option.bind_some,
      p1, Option.bind_some, p2, Option.bind_some, alive_f (by decide), Option.bind_some, if_pos rfl, if_pos rfl, if_pos (by simp), if_pos rfl, if_pos (by simp), if_pos rfl,
      extend_f, Option.bind_some, refextend_f hvN (by decide), Option.bind_some, if_pos rfl, reverse_f, Option.bind_some, refreverse_f hvN (by decide), Option.bind_some, if_pos rfl,
      count_f hl hL' (by omega), Option.bind_some, refcount_f hl (by omega) (by omega), Option.bind_some]
    simp
theorem BitsTells.walk (a0 : Option Addr) (len0 cap0 : Nat) (z0 : List Int) (a1_0 a1_1 a2 : Int) (w : World) (w0 : (a0 = none ∧ len0 = 0 ∧ cap0 = 0 ∧ z0 = []) ∨ ∃ x, a0 = some x ∧ len0 ≤ cap0 ∧ cap0 ≤ maxLen ∧ z0.length = cap0 ∧ (∀ i, i < z0.length → w.cell? (x.add i) = some (.int .u8 (z0.getD i 0))) ∧ ∀ n ∈ z0, (Lit.int .u8 n).wf = true) (_y0 : len0 * 1 ≤ 140737488351232) (_w1 : (Lit.int .i64 a1_0).wf = true) (_w2 : (Lit.int .i64 a1_1).wf = true) (w3 : (Lit.int .u64 a2).wf = true) :
    Calls Try.prog 8 #[.slice a0 len0 cap0, .agg #[.int .i64 a1_0, .int .i64 a1_1], .int .u64 a2] w fun e w' => e = .returned (.bool true) ∧ Below w.heap.size w w' := by
  obtain ⟨l0, rfl, hr0, hm0, hw0, hc0⟩ := ReadsInt.ofRowC w0
  exact rotuletlaw01_BitsTells.calls 9000 _ _ l0 a1_0 a1_1 a2 true rfl w (Kd.C_of_reads (d := (0 : Int)) (h1 := fun _ => rfl) hr0) hc0 (tells_f (fun x hx => wf_u8 (hw0 x hx)) (wf_u64 w3))
end Go.Proofs.Ytfjcanleekmagaa.Pure
