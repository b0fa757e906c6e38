/- Proved: for any three pieces of bytes (at most 4000 each are asked about), the law AdlerPieces answers true. -/
import Derived.Test.YtbkenaekgmbiiaaFn10
import Derived.Test.YtbkenaekgmbiiaaWin
namespace Go.Proofs.Ytbkenaekgmbiiaa.Pure
open Go.RowKit Go.Proofs.Ytbkenaekgmbiiaa.Fn Go.Proofs.YtbkenaekgmbiiaaW.PrintWords Go.Proofs.YtbkenaekgmbiiaaW.PrintLast

theorem join_list (x y : List Int) (n : Int) (hn : n = (y.length : Int)) (hl : y.length ≤ 100000) : adler_Join.f (sumOf x) (sumOf y) n = some (sumOf (x ++ y)) := by
  subst hn
  rw [join_eq (sumOf_bound _).1 (sumOf_bound _).2 (sumOf_bound _).1 (sumOf_bound _).2 (by omega)]
  congr 1
  unfold sumOf
  rw [enc_low, enc_low, enc_high, enc_high, SS_append, TT_append, List.length_append, show max (y.length : Int) 0 = (y.length : Int) from by omega]
  have e := mod_mul (y.length : Int) ((1 + SS x) % 65521 - 1)
  have e' := mod_mul (y.length : Int) (SS x)
  rw [show ((1 + SS x) % 65521 - 1) % 65521 = SS x % 65521 from by omega] at e
  refine enc_congr (by omega) ?_
  rw [Int.natCast_add]
  omega
theorem more_list {k : Nat} {x y : List Int} (hk : 3 * y.length < k) (hb : Bytes y) (hn : y.length ≤ 100000) : adler_More.f k (sumOf x) y = some (sumOf (x ++ y)) := by
  rw [more_eq hk hb (by omega) (sumOf_bound _).1 (sumOf_bound _).2]
  congr 1
  unfold sumOf
  rw [enc_low, enc_high, SS_append, TT_append, List.length_append]
  have e := mod_mul (y.length : Int) (1 + SS x)
  rw [Int.mul_add (y.length : Int) 1 (SS x), Int.mul_one] at e
  refine enc_congr (by omega) ?_
  rw [Int.natCast_add]
  omega
theorem Bytes.append {x y : List Int} (hx : Bytes x) (hy : Bytes y) : Bytes (x ++ y) := by
  intro z hz
  rcases List.mem_append.1 hz with h | h
  · exact hx z h
  · exact hy z h

theorem AdlerPieces (x y z : List Int) (hx : Bytes x) (hy : Bytes y) (hz : Bytes z) (h0 : x.length ≤ 4000) (h1 : y.length ≤ 4000) (h2 : z.length ≤ 4000) :
    rotuletlaw03_AdlerPieces.f 50000 x y z = some true := by
  unfold rotuletlaw03_AdlerPieces.f
  have hxy : (x ++ y).length = x.length + y.length := List.length_append
  have hxyz : (x ++ y ++ z).length = x.length + y.length + z.length := by rw [List.length_append, hxy]
  simp only [Option.bind_some, List.nil_append, List.length_nil, Nat.zero_add]
  rw [if_pos (by omega), if_pos (by omega), if_pos (by omega), sum_of (by omega) ((hx.append hy).append hz) (by omega), Option.bind_some, sum_of (by omega) hx (by omega), Option.bind_some,
    sum_of (by omega) hy (by omega), Option.bind_some, sum_of (by omega) hz (by omega), Option.bind_some, join_list x y _ rfl (by omega), Option.bind_some, join_list (x ++ y) z _ rfl (by omega), Option.bind_some,
    join_list y z _ rfl (by omega), Option.bind_some, join_list x (y ++ z) _ (by rw [w64 (by omega) (by omega), List.length_append]; omega) (by rw [List.length_append]; omega), Option.bind_some,
    alive_f (by omega), Option.bind_some, if_pos rfl, more_list (by omega) hy (by omega), Option.bind_some, more_list (by omega) hz (by omega), Option.bind_some, if_pos rfl, if_pos rfl, List.append_assoc]
  simp

def IsRow' (w : World) (a : Option Addr) (len cap : Nat) (zs : List Int) : Prop :=
  (a = none ∧ len = 0 ∧ cap = 0 ∧ zs = []) ∨ ∃ x, a = some x ∧ len ≤ cap ∧ cap ≤ maxLen ∧ zs.length = cap ∧ (∀ i, i < zs.length → w.cell? (x.add i) = some (.int .u8 (zs.getD i 0))) ∧ ∀ n ∈ zs, (Lit.int .u8 n).wf = true

theorem AdlerPieces.walk (a0 : Option Addr) (len0 cap0 : Nat) (z0 : List Int) (a1 : Option Addr) (len1 cap1 : Nat) (z1 : List Int) (a2 : Option Addr) (len2 cap2 : Nat) (z2 : List Int) (w : World)
    (w0 : IsRow' w a0 len0 cap0 z0) (w1 : IsRow' w a1 len1 cap1 z1) (w2 : IsRow' w a2 len2 cap2 z2) :
    Calls Try.prog 4 #[.agg #[.slice a0 len0 cap0, .slice a1 len1 cap1, .slice a2 len2 cap2]] w fun e w' => e = .returned (.bool true) ∧ Below w.heap.size w w' := by
  have al : rotuletlaw03_alive.f 100 = some true := alive_f (by omega)
  by_cases h0 : len0 ≤ 4000
  · by_cases h1 : len1 ≤ 4000
    · by_cases h2 : len2 ≤ 4000
      · obtain ⟨l0, rfl, hr0, hm0, hw0, hc0⟩ := ReadsInt.ofRowC w0
        obtain ⟨l1, rfl, hr1, hm1, hw1, hc1⟩ := ReadsInt.ofRowC w1
        obtain ⟨l2, rfl, hr2, hm2, hw2, hc2⟩ := ReadsInt.ofRowC w2
        exact rotuletlaw03_AdlerPieces.calls 50000 _ _ l0 _ _ l1 _ _ l2 true rfl h0 h1 h2 w (Kd.C_of_reads (d := (0 : Int)) (h1 := fun _ => rfl) hr0) hc0 (Kd.C_of_reads (d := (0 : Int)) (h1 := fun _ => rfl) hr1) hc1 (Kd.C_of_reads (d := (0 : Int)) (h1 := fun _ => rfl) hr2) hc2
          (AdlerPieces l0 l1 l2 (Bytes.of_wf hw0) (Bytes.of_wf hw1) (Bytes.of_wf hw2) h0 h1 h2)
      · exact rotuletlaw03_AdlerPieces.long2 100 a0 a1 a2 len0 len1 len2 cap0 cap1 cap2 w h0 h1 (by omega) al
    · exact rotuletlaw03_AdlerPieces.long1 100 a0 a1 a2 len0 len1 len2 cap0 cap1 cap2 w h0 (by omega) al
  · exact rotuletlaw03_AdlerPieces.long0 100 a0 a1 a2 len0 len1 len2 cap0 cap1 cap2 w (by omega) al

end Go.Proofs.Ytbkenaekgmbiiaa.Pure
