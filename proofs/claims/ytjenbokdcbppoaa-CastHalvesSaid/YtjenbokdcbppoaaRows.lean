/-
  No cell of these rows narrows 'for every input' (looked for: loops, veiled, ifaces, maps, wideKeys, modest, calm, conditions, laid).
  DERIVED. THE GIVEN ROWS OF THIS SEAT. 7 by the template 'for every input the law returns true; each argument reads behind the call as it read before'; 0 by the template 'total and deterministic' (their statements: YtjenbokdcbppoaaTotals.lean).
  GIVEN WITH THE SEED: the statements are not yours to turn. If you find one false, say at which input.
  Laid BY PROGRAM, IN A SANDBOX (cutbox-rows.mjs): the forced cells as the released guide's own fill.sh prints them over the translation 46f3fe6cb381b7e9… (all of the seat's roots in one cut). By AI agents, Wed Nov 11 2026. No macro, syntax, notation, axiom, sorry.
-/
import Derived.Test.YtjenbokdcbppoaaChecked
import GoSem.Claim
import GoSem.ClaimJoined
import GoSem.ClaimMapViews
import Derived.JoinedTies
import Derived.KernelRfl
namespace Go.Proofs.Ytjenbokdcbppoaa
/- THE CELL 'sum', in the pinned program and in every row, IS THE sha256 OF THE DUMP (.gsa) THAT YtjenbokdcbppoaaProg.lean LOADS. Nothing in Lean hashes anything: it is a label: what it is worth is what the hold of that sum in a sandbox is worth. -/
noncomputable def Try.pinned : Pinned := { name := "ytjenbokdcbppoaa", sum := "46f3fe6cb381b7e9c36ccaf1c15cf71505d3c82feaf2492f7f816ad526c2967e", checked := Try.checked }
namespace Rows
def none {H : Type} : Left H := { results := [], args := [] }

/-- 'rotuletlaw02.CastSums': WHATEVER THE INPUT: true; the input reads as it did. -/
def castSumsSpec : ChangeSpec := { name := "castSums", fn := fun _ => fun
  | [d1, d2, d3] => { results := [.lit (.bool true)], args := [d1, d2, d3] }
  | _ => none }
def castSumsRow : OpenClaim := { program := "ytjenbokdcbppoaa", sum := "46f3fe6cb381b7e9c36ccaf1c15cf71505d3c82feaf2492f7f816ad526c2967e", func := "rotulet/rotuletlaw02.CastSums", spec := "castSums", inPlace := ["math/bits.Add64"], apart := false }
def CastSumsSaid : Prop := castSumsRow.holds Try.pinned (OpenSpec.ofChange castSumsSpec)

/-- ITS FALSE NEIGHBOUR: 'it returns false'. Refute it at one input. -/
def castSumsWrong : ChangeSpec := { name := "castSums", fn := fun _ => fun
  | [d1, d2, d3] => { results := [.lit (.bool false)], args := [d1, d2, d3] }
  | _ => none }
def CastSumsWrongFalsely : Prop := castSumsRow.holds Try.pinned (OpenSpec.ofChange castSumsWrong)

/-- 'rotuletlaw02.CastOrder': WHATEVER THE INPUT: true; the input reads as it did. -/
def castOrderSpec : ChangeSpec := { name := "castOrder", fn := fun _ => fun
  | [d1, d2, d3] => { results := [.lit (.bool true)], args := [d1, d2, d3] }
  | _ => none }
def castOrderRow : OpenClaim := { program := "ytjenbokdcbppoaa", sum := "46f3fe6cb381b7e9c36ccaf1c15cf71505d3c82feaf2492f7f816ad526c2967e", func := "rotulet/rotuletlaw02.CastOrder", spec := "castOrder", inPlace := ["math/bits.Add64"], apart := false }
def CastOrderSaid : Prop := castOrderRow.holds Try.pinned (OpenSpec.ofChange castOrderSpec)

/-- ITS FALSE NEIGHBOUR: 'it returns false'. Refute it at one input. -/
def castOrderWrong : ChangeSpec := { name := "castOrder", fn := fun _ => fun
  | [d1, d2, d3] => { results := [.lit (.bool false)], args := [d1, d2, d3] }
  | _ => none }
def CastOrderWrongFalsely : Prop := castOrderRow.holds Try.pinned (OpenSpec.ofChange castOrderWrong)

/-- 'rotuletlaw02.CastBetween': WHATEVER THE INPUT: true; the input reads as it did. -/
def castBetweenSpec : ChangeSpec := { name := "castBetween", fn := fun _ => fun
  | [d1, d2, d3] => { results := [.lit (.bool true)], args := [d1, d2, d3] }
  | _ => none }
def castBetweenRow : OpenClaim := { program := "ytjenbokdcbppoaa", sum := "46f3fe6cb381b7e9c36ccaf1c15cf71505d3c82feaf2492f7f816ad526c2967e", func := "rotulet/rotuletlaw02.CastBetween", spec := "castBetween", inPlace := ["math/bits.Add64"], apart := false }
def CastBetweenSaid : Prop := castBetweenRow.holds Try.pinned (OpenSpec.ofChange castBetweenSpec)

/-- ITS FALSE NEIGHBOUR: 'it returns false'. Refute it at one input. -/
def castBetweenWrong : ChangeSpec := { name := "castBetween", fn := fun _ => fun
  | [d1, d2, d3] => { results := [.lit (.bool false)], args := [d1, d2, d3] }
  | _ => none }
def CastBetweenWrongFalsely : Prop := castBetweenRow.holds Try.pinned (OpenSpec.ofChange castBetweenWrong)

/-- 'rotuletlaw02.CastBack': WHATEVER THE INPUT: true; the input reads as it did. -/
def castBackSpec : ChangeSpec := { name := "castBack", fn := fun _ => fun
  | [d1, d2] => { results := [.lit (.bool true)], args := [d1, d2] }
  | _ => none }
def castBackRow : OpenClaim := { program := "ytjenbokdcbppoaa", sum := "46f3fe6cb381b7e9c36ccaf1c15cf71505d3c82feaf2492f7f816ad526c2967e", func := "rotulet/rotuletlaw02.CastBack", spec := "castBack", inPlace := ["math/bits.Add64"], apart := false }
def CastBackSaid : Prop := castBackRow.holds Try.pinned (OpenSpec.ofChange castBackSpec)

/-- ITS FALSE NEIGHBOUR: 'it returns false'. Refute it at one input. -/
def castBackWrong : ChangeSpec := { name := "castBack", fn := fun _ => fun
  | [d1, d2] => { results := [.lit (.bool false)], args := [d1, d2] }
  | _ => none }
def CastBackWrongFalsely : Prop := castBackRow.holds Try.pinned (OpenSpec.ofChange castBackWrong)

/-- 'rotuletlaw02.CastPowers': WHATEVER THE INPUT: true; the input reads as it did. -/
def castPowersSpec : ChangeSpec := { name := "castPowers", fn := fun _ => fun
  | [d1, d2] => { results := [.lit (.bool true)], args := [d1, d2] }
  | _ => none }
def castPowersRow : OpenClaim := { program := "ytjenbokdcbppoaa", sum := "46f3fe6cb381b7e9c36ccaf1c15cf71505d3c82feaf2492f7f816ad526c2967e", func := "rotulet/rotuletlaw02.CastPowers", spec := "castPowers", inPlace := ["math/bits.Add64"], apart := false }
def CastPowersSaid : Prop := castPowersRow.holds Try.pinned (OpenSpec.ofChange castPowersSpec)

/-- ITS FALSE NEIGHBOUR: 'it returns false'. Refute it at one input. -/
def castPowersWrong : ChangeSpec := { name := "castPowers", fn := fun _ => fun
  | [d1, d2] => { results := [.lit (.bool false)], args := [d1, d2] }
  | _ => none }
def CastPowersWrongFalsely : Prop := castPowersRow.holds Try.pinned (OpenSpec.ofChange castPowersWrong)

/-- 'rotuletlaw02.CastHalves': WHATEVER THE INPUT: true; the input reads as it did. -/
def castHalvesSpec : ChangeSpec := { name := "castHalves", fn := fun _ => fun
  | [d1, d2, d3] => { results := [.lit (.bool true)], args := [d1, d2, d3] }
  | _ => none }
def castHalvesRow : OpenClaim := { program := "ytjenbokdcbppoaa", sum := "46f3fe6cb381b7e9c36ccaf1c15cf71505d3c82feaf2492f7f816ad526c2967e", func := "rotulet/rotuletlaw02.CastHalves", spec := "castHalves", inPlace := ["math/bits.Add64"], apart := false }
def CastHalvesSaid : Prop := castHalvesRow.holds Try.pinned (OpenSpec.ofChange castHalvesSpec)

/-- ITS FALSE NEIGHBOUR: 'it returns false'. Refute it at one input. -/
def castHalvesWrong : ChangeSpec := { name := "castHalves", fn := fun _ => fun
  | [d1, d2, d3] => { results := [.lit (.bool false)], args := [d1, d2, d3] }
  | _ => none }
def CastHalvesWrongFalsely : Prop := castHalvesRow.holds Try.pinned (OpenSpec.ofChange castHalvesWrong)

/-- 'rotuletlaw02.CastTells': WHATEVER THE INPUT: true; the input reads as it did. -/
def castTellsSpec : ChangeSpec := { name := "castTells", fn := fun _ => fun
  | [d1, d2, d3] => { results := [.lit (.bool true)], args := [d1, d2, d3] }
  | _ => none }
def castTellsRow : OpenClaim := { program := "ytjenbokdcbppoaa", sum := "46f3fe6cb381b7e9c36ccaf1c15cf71505d3c82feaf2492f7f816ad526c2967e", func := "rotulet/rotuletlaw02.CastTells", spec := "castTells", inPlace := ["math/bits.Add64"], apart := false }
def CastTellsSaid : Prop := castTellsRow.holds Try.pinned (OpenSpec.ofChange castTellsSpec)

/-- ITS FALSE NEIGHBOUR: 'it returns false'. Refute it at one input. -/
def castTellsWrong : ChangeSpec := { name := "castTells", fn := fun _ => fun
  | [d1, d2, d3] => { results := [.lit (.bool false)], args := [d1, d2, d3] }
  | _ => none }
def CastTellsWrongFalsely : Prop := castTellsRow.holds Try.pinned (OpenSpec.ofChange castTellsWrong)

/- THE SECOND FORM. 'bulk': how many values and letters a reading holds, each counted each time it is reached (what is shared counts as often as it is met; a slice's spare places count too). A statement '..UptoSaid' is the law's where the arguments, and the package variables that the reading takes, are together of bulk at most 1048576: NARROWER than '..Said'. Prove '..Said' where nothing that the law and all that it calls make is longer than what came in: it says more and counts as full. Else prove '..UptoSaid'. A law counts once. -/
mutual
def uptoBulk {H : Type} : DataW H → Nat
  | .lit (.string bytes) => bytes.length + 1
  | .lit _ => 1
  | .nil => 1
  | .ptr d => uptoBulk d + 1
  | .slice elems spare => uptoBulkAll elems + uptoBulkAll spare + 1
  | .agg parts => uptoBulkAll parts + 1
  | .iface _ d => uptoBulk d + 1
  | .map entries => uptoBulkEntries entries + 1
  | .held _ => 1
def uptoBulkAll {H : Type} : List (DataW H) → Nat
  | [] => 0
  | d :: r => uptoBulk d + uptoBulkAll r
def uptoBulkEntries {H : Type} : List (Lit × DataW H) → Nat
  | [] => 0
  | x :: r => uptoBulkEntry x + uptoBulkEntries r
def uptoBulkEntry {H : Type} : Lit × DataW H → Nat
  | (.string bytes, d) => bytes.length + uptoBulk d + 1
  | (_, d) => uptoBulk d + 1
 end
def uptoSmall : (H : Type) → List (DataW H) → Bool := fun _ ds => decide (uptoBulkAll ds ≤ 1048576)
def OpenSpec.upto (s : _root_.Go.ChangeSpec) : _root_.Go.OpenSpec := { _root_.Go.OpenSpec.ofChange s with cond := some uptoSmall }

/-- 'rotuletlaw02.CastSums', WHERE WHAT IT READS IS OF BULK AT MOST 1048576: true; the input reads as it did. -/
def castSumsUptoRow : OpenClaim := { program := "ytjenbokdcbppoaa", sum := "46f3fe6cb381b7e9c36ccaf1c15cf71505d3c82feaf2492f7f816ad526c2967e", func := "rotulet/rotuletlaw02.CastSums", spec := "castSums", inPlace := ["math/bits.Add64"], apart := false, narrowed := true }
def CastSumsUptoSaid : Prop := castSumsUptoRow.holds Try.pinned (OpenSpec.upto castSumsSpec)

/-- 'rotuletlaw02.CastOrder', WHERE WHAT IT READS IS OF BULK AT MOST 1048576: true; the input reads as it did. -/
def castOrderUptoRow : OpenClaim := { program := "ytjenbokdcbppoaa", sum := "46f3fe6cb381b7e9c36ccaf1c15cf71505d3c82feaf2492f7f816ad526c2967e", func := "rotulet/rotuletlaw02.CastOrder", spec := "castOrder", inPlace := ["math/bits.Add64"], apart := false, narrowed := true }
def CastOrderUptoSaid : Prop := castOrderUptoRow.holds Try.pinned (OpenSpec.upto castOrderSpec)

/-- 'rotuletlaw02.CastBetween', WHERE WHAT IT READS IS OF BULK AT MOST 1048576: true; the input reads as it did. -/
def castBetweenUptoRow : OpenClaim := { program := "ytjenbokdcbppoaa", sum := "46f3fe6cb381b7e9c36ccaf1c15cf71505d3c82feaf2492f7f816ad526c2967e", func := "rotulet/rotuletlaw02.CastBetween", spec := "castBetween", inPlace := ["math/bits.Add64"], apart := false, narrowed := true }
def CastBetweenUptoSaid : Prop := castBetweenUptoRow.holds Try.pinned (OpenSpec.upto castBetweenSpec)

/-- 'rotuletlaw02.CastBack', WHERE WHAT IT READS IS OF BULK AT MOST 1048576: true; the input reads as it did. -/
def castBackUptoRow : OpenClaim := { program := "ytjenbokdcbppoaa", sum := "46f3fe6cb381b7e9c36ccaf1c15cf71505d3c82feaf2492f7f816ad526c2967e", func := "rotulet/rotuletlaw02.CastBack", spec := "castBack", inPlace := ["math/bits.Add64"], apart := false, narrowed := true }
def CastBackUptoSaid : Prop := castBackUptoRow.holds Try.pinned (OpenSpec.upto castBackSpec)

/-- 'rotuletlaw02.CastPowers', WHERE WHAT IT READS IS OF BULK AT MOST 1048576: true; the input reads as it did. -/
def castPowersUptoRow : OpenClaim := { program := "ytjenbokdcbppoaa", sum := "46f3fe6cb381b7e9c36ccaf1c15cf71505d3c82feaf2492f7f816ad526c2967e", func := "rotulet/rotuletlaw02.CastPowers", spec := "castPowers", inPlace := ["math/bits.Add64"], apart := false, narrowed := true }
def CastPowersUptoSaid : Prop := castPowersUptoRow.holds Try.pinned (OpenSpec.upto castPowersSpec)

/-- 'rotuletlaw02.CastHalves', WHERE WHAT IT READS IS OF BULK AT MOST 1048576: true; the input reads as it did. -/
def castHalvesUptoRow : OpenClaim := { program := "ytjenbokdcbppoaa", sum := "46f3fe6cb381b7e9c36ccaf1c15cf71505d3c82feaf2492f7f816ad526c2967e", func := "rotulet/rotuletlaw02.CastHalves", spec := "castHalves", inPlace := ["math/bits.Add64"], apart := false, narrowed := true }
def CastHalvesUptoSaid : Prop := castHalvesUptoRow.holds Try.pinned (OpenSpec.upto castHalvesSpec)

/-- 'rotuletlaw02.CastTells', WHERE WHAT IT READS IS OF BULK AT MOST 1048576: true; the input reads as it did. -/
def castTellsUptoRow : OpenClaim := { program := "ytjenbokdcbppoaa", sum := "46f3fe6cb381b7e9c36ccaf1c15cf71505d3c82feaf2492f7f816ad526c2967e", func := "rotulet/rotuletlaw02.CastTells", spec := "castTells", inPlace := ["math/bits.Add64"], apart := false, narrowed := true }
def CastTellsUptoSaid : Prop := castTellsUptoRow.holds Try.pinned (OpenSpec.upto castTellsSpec)

end Rows
end Go.Proofs.Ytjenbokdcbppoaa
