/-
  No cell of these rows narrows 'for every input' (looked for: loops, veiled, ifaces, maps, wideKeys, modest, calm, conditions, laid).
  DERIVED. THE GIVEN ROWS OF THIS SEAT. 6 by the template 'for every input the law returns true; each argument reads behind the call as it read before'; 0 by the template 'total and deterministic' (their statements: YtbkenaekgmbiiaaTotals.lean).
  GIVEN WITH THE SEED: the statements are not yours to turn. If you find one false, say at which input.
  Laid BY PROGRAM, IN A SANDBOX (cutbox-rows.mjs): the forced cells as the released guide's own fill.sh prints them over the translation d9f174f792e8776c… (all of the seat's roots in one cut). By AI agents, Wed Nov 11 2026. No macro, syntax, notation, axiom, sorry.
-/
import Derived.Test.YtbkenaekgmbiiaaChecked
import GoSem.Claim
import GoSem.ClaimJoined
import GoSem.ClaimMapViews
import Derived.JoinedTies
import Derived.KernelRfl
namespace Go.Proofs.Ytbkenaekgmbiiaa
/- THE CELL 'sum', in the pinned program and in every row, IS THE sha256 OF THE DUMP (.gsa) THAT YtbkenaekgmbiiaaProg.lean LOADS. Nothing in Lean hashes anything: it is a label: what it is worth is what the hold of that sum in a sandbox is worth. -/
noncomputable def Try.pinned : Pinned := { name := "ytbkenaekgmbiiaa", sum := "d9f174f792e8776c8306df2dc92c8534f6c3963d92f83409f6ff8d231bb5dd38", checked := Try.checked }
namespace Rows
def none {H : Type} : Left H := { results := [], args := [] }

/-- 'rotuletlaw03.AdlerOne': WHATEVER THE INPUT: true; the input reads as it did. -/
def adlerOneSpec : ChangeSpec := { name := "adlerOne", fn := fun _ => fun
  | [d1, d2, d3] => { results := [.lit (.bool true)], args := [d1, d2, d3] }
  | _ => none }
def adlerOneRow : OpenClaim := { program := "ytbkenaekgmbiiaa", sum := "d9f174f792e8776c8306df2dc92c8534f6c3963d92f83409f6ff8d231bb5dd38", func := "rotulet/rotuletlaw03.AdlerOne", spec := "adlerOne", apart := false }
def AdlerOneSaid : Prop := adlerOneRow.holds Try.pinned (OpenSpec.ofChange adlerOneSpec)

/-- ITS FALSE NEIGHBOUR: 'it returns false'. Refute it at one input. -/
def adlerOneWrong : ChangeSpec := { name := "adlerOne", fn := fun _ => fun
  | [d1, d2, d3] => { results := [.lit (.bool false)], args := [d1, d2, d3] }
  | _ => none }
def AdlerOneWrongFalsely : Prop := adlerOneRow.holds Try.pinned (OpenSpec.ofChange adlerOneWrong)

/-- 'rotuletlaw03.AdlerPieces': WHATEVER THE INPUT: true; the input reads as it did. -/
def adlerPiecesSpec : ChangeSpec := { name := "adlerPieces", fn := fun _ => fun
  | [d] => { results := [.lit (.bool true)], args := [d] }
  | _ => none }
def adlerPiecesRow : OpenClaim := { program := "ytbkenaekgmbiiaa", sum := "d9f174f792e8776c8306df2dc92c8534f6c3963d92f83409f6ff8d231bb5dd38", func := "rotulet/rotuletlaw03.AdlerPieces", spec := "adlerPieces", apart := false }
def AdlerPiecesSaid : Prop := adlerPiecesRow.holds Try.pinned (OpenSpec.ofChange adlerPiecesSpec)

/-- ITS FALSE NEIGHBOUR: 'it returns false'. Refute it at one input. -/
def adlerPiecesWrong : ChangeSpec := { name := "adlerPieces", fn := fun _ => fun
  | [d] => { results := [.lit (.bool false)], args := [d] }
  | _ => none }
def AdlerPiecesWrongFalsely : Prop := adlerPiecesRow.holds Try.pinned (OpenSpec.ofChange adlerPiecesWrong)

/-- 'rotuletlaw03.AdlerRolls': WHATEVER THE INPUT: true; the input reads as it did. -/
def adlerRollsSpec : ChangeSpec := { name := "adlerRolls", fn := fun _ => fun
  | [d1, d2, d3] => { results := [.lit (.bool true)], args := [d1, d2, d3] }
  | _ => none }
def adlerRollsRow : OpenClaim := { program := "ytbkenaekgmbiiaa", sum := "d9f174f792e8776c8306df2dc92c8534f6c3963d92f83409f6ff8d231bb5dd38", func := "rotulet/rotuletlaw03.AdlerRolls", spec := "adlerRolls", apart := false }
def AdlerRollsSaid : Prop := adlerRollsRow.holds Try.pinned (OpenSpec.ofChange adlerRollsSpec)

/-- ITS FALSE NEIGHBOUR: 'it returns false'. Refute it at one input. -/
def adlerRollsWrong : ChangeSpec := { name := "adlerRolls", fn := fun _ => fun
  | [d1, d2, d3] => { results := [.lit (.bool false)], args := [d1, d2, d3] }
  | _ => none }
def AdlerRollsWrongFalsely : Prop := adlerRollsRow.holds Try.pinned (OpenSpec.ofChange adlerRollsWrong)

/-- 'rotuletlaw03.AdlerSums': WHATEVER THE INPUT: true; the input reads as it did. -/
def adlerSumsSpec : ChangeSpec := { name := "adlerSums", fn := fun _ => fun
  | [d1, d2, d3] => { results := [.lit (.bool true)], args := [d1, d2, d3] }
  | _ => none }
def adlerSumsRow : OpenClaim := { program := "ytbkenaekgmbiiaa", sum := "d9f174f792e8776c8306df2dc92c8534f6c3963d92f83409f6ff8d231bb5dd38", func := "rotulet/rotuletlaw03.AdlerSums", spec := "adlerSums", apart := false }
def AdlerSumsSaid : Prop := adlerSumsRow.holds Try.pinned (OpenSpec.ofChange adlerSumsSpec)

/-- ITS FALSE NEIGHBOUR: 'it returns false'. Refute it at one input. -/
def adlerSumsWrong : ChangeSpec := { name := "adlerSums", fn := fun _ => fun
  | [d1, d2, d3] => { results := [.lit (.bool false)], args := [d1, d2, d3] }
  | _ => none }
def AdlerSumsWrongFalsely : Prop := adlerSumsRow.holds Try.pinned (OpenSpec.ofChange adlerSumsWrong)

/-- 'rotuletlaw03.AdlerWindows': WHATEVER THE INPUT: true; the input reads as it did. -/
def adlerWindowsSpec : ChangeSpec := { name := "adlerWindows", fn := fun _ => fun
  | [d1, d2, d3] => { results := [.lit (.bool true)], args := [d1, d2, d3] }
  | _ => none }
def adlerWindowsRow : OpenClaim := { program := "ytbkenaekgmbiiaa", sum := "d9f174f792e8776c8306df2dc92c8534f6c3963d92f83409f6ff8d231bb5dd38", func := "rotulet/rotuletlaw03.AdlerWindows", spec := "adlerWindows", apart := false }
def AdlerWindowsSaid : Prop := adlerWindowsRow.holds Try.pinned (OpenSpec.ofChange adlerWindowsSpec)

/-- ITS FALSE NEIGHBOUR: 'it returns false'. Refute it at one input. -/
def adlerWindowsWrong : ChangeSpec := { name := "adlerWindows", fn := fun _ => fun
  | [d1, d2, d3] => { results := [.lit (.bool false)], args := [d1, d2, d3] }
  | _ => none }
def AdlerWindowsWrongFalsely : Prop := adlerWindowsRow.holds Try.pinned (OpenSpec.ofChange adlerWindowsWrong)

/-- 'rotuletlaw03.AdlerFinds': WHATEVER THE INPUT: true; the input reads as it did. -/
def adlerFindsSpec : ChangeSpec := { name := "adlerFinds", fn := fun _ => fun
  | [d1, d2, d3] => { results := [.lit (.bool true)], args := [d1, d2, d3] }
  | _ => none }
def adlerFindsRow : OpenClaim := { program := "ytbkenaekgmbiiaa", sum := "d9f174f792e8776c8306df2dc92c8534f6c3963d92f83409f6ff8d231bb5dd38", func := "rotulet/rotuletlaw03.AdlerFinds", spec := "adlerFinds", apart := false }
def AdlerFindsSaid : Prop := adlerFindsRow.holds Try.pinned (OpenSpec.ofChange adlerFindsSpec)

/-- ITS FALSE NEIGHBOUR: 'it returns false'. Refute it at one input. -/
def adlerFindsWrong : ChangeSpec := { name := "adlerFinds", fn := fun _ => fun
  | [d1, d2, d3] => { results := [.lit (.bool false)], args := [d1, d2, d3] }
  | _ => none }
def AdlerFindsWrongFalsely : Prop := adlerFindsRow.holds Try.pinned (OpenSpec.ofChange adlerFindsWrong)

/- THE SECOND FORM. 'bulk': how many values and letters a reading holds, each counted each time it is reached (what is shared counts as often as it is met; a slice's spare places count too). A statement '..UptoSaid' is the law's where the arguments, and the package variables that the reading takes, are together of bulk at most 1048576: NARROWER than '..Said'. Prove '..Said' where nothing that the law and all that it calls make is longer than what came in: it says more and counts as full. Else prove '..UptoSaid'. A law counts once. -/
mutual
def uptoBulk {H : Type} : DataW H → Nat
  | .lit (.string bytes) => bytes.length + 1
  | .lit _ => 1
  | .nil => 1
  | .ptr d => uptoBulk d + 1
  | .slice elems spare => uptoBulkAll elems + uptoBulkAll spare + 1
  | .agg parts => uptoBulkAll parts + 1
  | .iface _ d => uptoBulk d + 1
  | .map entries => uptoBulkEntries entries + 1
  | .held _ => 1
def uptoBulkAll {H : Type} : List (DataW H) → Nat
  | [] => 0
  | d :: r => uptoBulk d + uptoBulkAll r
def uptoBulkEntries {H : Type} : List (Lit × DataW H) → Nat
  | [] => 0
  | x :: r => uptoBulkEntry x + uptoBulkEntries r
def uptoBulkEntry {H : Type} : Lit × DataW H → Nat
  | (.string bytes, d) => bytes.length + uptoBulk d + 1
  | (_, d) => uptoBulk d + 1
 end
def uptoSmall : (H : Type) → List (DataW H) → Bool := fun _ ds => decide (uptoBulkAll ds ≤ 1048576)
def OpenSpec.upto (s : _root_.Go.ChangeSpec) : _root_.Go.OpenSpec := { _root_.Go.OpenSpec.ofChange s with cond := some uptoSmall }

/-- 'rotuletlaw03.AdlerOne', WHERE WHAT IT READS IS OF BULK AT MOST 1048576: true; the input reads as it did. -/
def adlerOneUptoRow : OpenClaim := { program := "ytbkenaekgmbiiaa", sum := "d9f174f792e8776c8306df2dc92c8534f6c3963d92f83409f6ff8d231bb5dd38", func := "rotulet/rotuletlaw03.AdlerOne", spec := "adlerOne", apart := false, narrowed := true }
def AdlerOneUptoSaid : Prop := adlerOneUptoRow.holds Try.pinned (OpenSpec.upto adlerOneSpec)

/-- 'rotuletlaw03.AdlerPieces', WHERE WHAT IT READS IS OF BULK AT MOST 1048576: true; the input reads as it did. -/
def adlerPiecesUptoRow : OpenClaim := { program := "ytbkenaekgmbiiaa", sum := "d9f174f792e8776c8306df2dc92c8534f6c3963d92f83409f6ff8d231bb5dd38", func := "rotulet/rotuletlaw03.AdlerPieces", spec := "adlerPieces", apart := false, narrowed := true }
def AdlerPiecesUptoSaid : Prop := adlerPiecesUptoRow.holds Try.pinned (OpenSpec.upto adlerPiecesSpec)

/-- 'rotuletlaw03.AdlerRolls', WHERE WHAT IT READS IS OF BULK AT MOST 1048576: true; the input reads as it did. -/
def adlerRollsUptoRow : OpenClaim := { program := "ytbkenaekgmbiiaa", sum := "d9f174f792e8776c8306df2dc92c8534f6c3963d92f83409f6ff8d231bb5dd38", func := "rotulet/rotuletlaw03.AdlerRolls", spec := "adlerRolls", apart := false, narrowed := true }
def AdlerRollsUptoSaid : Prop := adlerRollsUptoRow.holds Try.pinned (OpenSpec.upto adlerRollsSpec)

/-- 'rotuletlaw03.AdlerSums', WHERE WHAT IT READS IS OF BULK AT MOST 1048576: true; the input reads as it did. -/
def adlerSumsUptoRow : OpenClaim := { program := "ytbkenaekgmbiiaa", sum := "d9f174f792e8776c8306df2dc92c8534f6c3963d92f83409f6ff8d231bb5dd38", func := "rotulet/rotuletlaw03.AdlerSums", spec := "adlerSums", apart := false, narrowed := true }
def AdlerSumsUptoSaid : Prop := adlerSumsUptoRow.holds Try.pinned (OpenSpec.upto adlerSumsSpec)

/-- 'rotuletlaw03.AdlerWindows', WHERE WHAT IT READS IS OF BULK AT MOST 1048576: true; the input reads as it did. -/
def adlerWindowsUptoRow : OpenClaim := { program := "ytbkenaekgmbiiaa", sum := "d9f174f792e8776c8306df2dc92c8534f6c3963d92f83409f6ff8d231bb5dd38", func := "rotulet/rotuletlaw03.AdlerWindows", spec := "adlerWindows", apart := false, narrowed := true }
def AdlerWindowsUptoSaid : Prop := adlerWindowsUptoRow.holds Try.pinned (OpenSpec.upto adlerWindowsSpec)

/-- 'rotuletlaw03.AdlerFinds', WHERE WHAT IT READS IS OF BULK AT MOST 1048576: true; the input reads as it did. -/
def adlerFindsUptoRow : OpenClaim := { program := "ytbkenaekgmbiiaa", sum := "d9f174f792e8776c8306df2dc92c8534f6c3963d92f83409f6ff8d231bb5dd38", func := "rotulet/rotuletlaw03.AdlerFinds", spec := "adlerFinds", apart := false, narrowed := true }
def AdlerFindsUptoSaid : Prop := adlerFindsUptoRow.holds Try.pinned (OpenSpec.upto adlerFindsSpec)

end Rows
end Go.Proofs.Ytbkenaekgmbiiaa
