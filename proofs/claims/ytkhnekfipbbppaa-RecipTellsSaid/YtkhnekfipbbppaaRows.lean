/-
  No cell of these rows narrows 'for every input' (looked for: loops, veiled, ifaces, maps, wideKeys, modest, calm, conditions, laid).
  DERIVED. THE GIVEN ROWS OF THIS SEAT. 5 by the template 'for every input the law returns true; each argument reads behind the call as it read before'; 0 by the template 'total and deterministic' (their statements: YtkhnekfipbbppaaTotals.lean).
  GIVEN WITH THE SEED: the statements are not yours to turn. If you find one false, say at which input.
  Laid BY PROGRAM, IN A SANDBOX (cutbox-rows.mjs): the forced cells as the released guide's own fill.sh prints them over the translation 51701eaf0858a19d… (all of the seat's roots in one cut). By AI agents, Wed Nov 11 2026. No macro, syntax, notation, axiom, sorry.
-/
import Derived.Test.YtkhnekfipbbppaaChecked
import GoSem.Claim
import GoSem.ClaimJoined
import GoSem.ClaimMapViews
import Derived.JoinedTies
import Derived.KernelRfl
namespace Go.Proofs.Ytkhnekfipbbppaa
/- THE CELL 'sum', in the pinned program and in every row, IS THE sha256 OF THE DUMP (.gsa) THAT YtkhnekfipbbppaaProg.lean LOADS. Nothing in Lean hashes anything: it is a label: what it is worth is what the hold of that sum in a sandbox is worth. -/
noncomputable def Try.pinned : Pinned := { name := "ytkhnekfipbbppaa", sum := "51701eaf0858a19d0786f4328532de8163feaa516cdab538789080a27dd2ecde", checked := Try.checked }
namespace Rows
def none {H : Type} : Left H := { results := [], args := [] }

/-- 'rosettelaw16.RecipNumbers': WHATEVER THE INPUT: true; the input reads as it did. -/
def recipNumbersSpec : ChangeSpec := { name := "recipNumbers", fn := fun _ => fun
  | [] => { results := [.lit (.bool true)], args := [] }
  | _ => none }
def recipNumbersRow : OpenClaim := { program := "ytkhnekfipbbppaa", sum := "51701eaf0858a19d0786f4328532de8163feaa516cdab538789080a27dd2ecde", func := "rosette/rosettelaw16.RecipNumbers", spec := "recipNumbers", inPlace := ["math/bits.Add64", "math/bits.Sub64"], unfollowed := true, recurses := true, named := ["math/bits.divideError", "math/bits.overflowError"], apart := false }
def RecipNumbersSaid : Prop := recipNumbersRow.holds Try.pinned (OpenSpec.ofChange recipNumbersSpec)

/-- ITS FALSE NEIGHBOUR: 'it returns false'. Refute it at one input. -/
def recipNumbersWrong : ChangeSpec := { name := "recipNumbers", fn := fun _ => fun
  | [] => { results := [.lit (.bool false)], args := [] }
  | _ => none }
def RecipNumbersWrongFalsely : Prop := recipNumbersRow.holds Try.pinned (OpenSpec.ofChange recipNumbersWrong)

/-- 'rosettelaw16.RecipTells': WHATEVER THE INPUT: true; the input reads as it did. -/
def recipTellsSpec : ChangeSpec := { name := "recipTells", fn := fun _ => fun
  | [d1, d2, d3] => { results := [.lit (.bool true)], args := [d1, d2, d3] }
  | _ => none }
def recipTellsRow : OpenClaim := { program := "ytkhnekfipbbppaa", sum := "51701eaf0858a19d0786f4328532de8163feaa516cdab538789080a27dd2ecde", func := "rosette/rosettelaw16.RecipTells", spec := "recipTells", inPlace := ["math/bits.Add64", "math/bits.Sub64"], unfollowed := true, recurses := true, named := ["math/bits.divideError", "math/bits.overflowError"], apart := false }
def RecipTellsSaid : Prop := recipTellsRow.holds Try.pinned (OpenSpec.ofChange recipTellsSpec)

/-- ITS FALSE NEIGHBOUR: 'it returns false'. Refute it at one input. -/
def recipTellsWrong : ChangeSpec := { name := "recipTells", fn := fun _ => fun
  | [d1, d2, d3] => { results := [.lit (.bool false)], args := [d1, d2, d3] }
  | _ => none }
def RecipTellsWrongFalsely : Prop := recipTellsRow.holds Try.pinned (OpenSpec.ofChange recipTellsWrong)

/-- 'rosettelaw16.RecipSteps': WHATEVER THE INPUT: true; the input reads as it did. -/
def recipStepsSpec : ChangeSpec := { name := "recipSteps", fn := fun _ => fun
  | [d1, d2, d3] => { results := [.lit (.bool true)], args := [d1, d2, d3] }
  | _ => none }
def recipStepsRow : OpenClaim := { program := "ytkhnekfipbbppaa", sum := "51701eaf0858a19d0786f4328532de8163feaa516cdab538789080a27dd2ecde", func := "rosette/rosettelaw16.RecipSteps", spec := "recipSteps", inPlace := ["math/bits.Add64", "math/bits.Sub64"], unfollowed := true, recurses := true, named := ["math/bits.divideError", "math/bits.overflowError"], apart := false }
def RecipStepsSaid : Prop := recipStepsRow.holds Try.pinned (OpenSpec.ofChange recipStepsSpec)

/-- ITS FALSE NEIGHBOUR: 'it returns false'. Refute it at one input. -/
def recipStepsWrong : ChangeSpec := { name := "recipSteps", fn := fun _ => fun
  | [d1, d2, d3] => { results := [.lit (.bool false)], args := [d1, d2, d3] }
  | _ => none }
def RecipStepsWrongFalsely : Prop := recipStepsRow.holds Try.pinned (OpenSpec.ofChange recipStepsWrong)

/-- 'rosettelaw16.RecipWithin': WHATEVER THE INPUT: true; the input reads as it did. -/
def recipWithinSpec : ChangeSpec := { name := "recipWithin", fn := fun _ => fun
  | [d1, d2, d3] => { results := [.lit (.bool true)], args := [d1, d2, d3] }
  | _ => none }
def recipWithinRow : OpenClaim := { program := "ytkhnekfipbbppaa", sum := "51701eaf0858a19d0786f4328532de8163feaa516cdab538789080a27dd2ecde", func := "rosette/rosettelaw16.RecipWithin", spec := "recipWithin", inPlace := ["math/bits.Add64", "math/bits.Sub64"], unfollowed := true, recurses := true, named := ["math/bits.divideError", "math/bits.overflowError"], apart := false }
def RecipWithinSaid : Prop := recipWithinRow.holds Try.pinned (OpenSpec.ofChange recipWithinSpec)

/-- ITS FALSE NEIGHBOUR: 'it returns false'. Refute it at one input. -/
def recipWithinWrong : ChangeSpec := { name := "recipWithin", fn := fun _ => fun
  | [d1, d2, d3] => { results := [.lit (.bool false)], args := [d1, d2, d3] }
  | _ => none }
def RecipWithinWrongFalsely : Prop := recipWithinRow.holds Try.pinned (OpenSpec.ofChange recipWithinWrong)

/-- 'rosettelaw16.RecipComes': WHATEVER THE INPUT: true; the input reads as it did. -/
def recipComesSpec : ChangeSpec := { name := "recipComes", fn := fun _ => fun
  | [d1, d2] => { results := [.lit (.bool true)], args := [d1, d2] }
  | _ => none }
def recipComesRow : OpenClaim := { program := "ytkhnekfipbbppaa", sum := "51701eaf0858a19d0786f4328532de8163feaa516cdab538789080a27dd2ecde", func := "rosette/rosettelaw16.RecipComes", spec := "recipComes", inPlace := ["math/bits.Add64", "math/bits.Sub64"], unfollowed := true, recurses := true, named := ["math/bits.divideError", "math/bits.overflowError"], apart := false }
def RecipComesSaid : Prop := recipComesRow.holds Try.pinned (OpenSpec.ofChange recipComesSpec)

/-- ITS FALSE NEIGHBOUR: 'it returns false'. Refute it at one input. -/
def recipComesWrong : ChangeSpec := { name := "recipComes", fn := fun _ => fun
  | [d1, d2] => { results := [.lit (.bool false)], args := [d1, d2] }
  | _ => none }
def RecipComesWrongFalsely : Prop := recipComesRow.holds Try.pinned (OpenSpec.ofChange recipComesWrong)

/- THE SECOND FORM. 'bulk': how many values and letters a reading holds, each counted each time it is reached (what is shared counts as often as it is met; a slice's spare places count too). A statement '..UptoSaid' is the law's where the arguments, and the package variables that the reading takes, are together of bulk at most 1048576: NARROWER than '..Said'. Prove '..Said' where nothing that the law and all that it calls make is longer than what came in: it says more and counts as full. Else prove '..UptoSaid'. A law counts once. -/
mutual
def uptoBulk {H : Type} : DataW H → Nat
  | .lit (.string bytes) => bytes.length + 1
  | .lit _ => 1
  | .nil => 1
  | .ptr d => uptoBulk d + 1
  | .slice elems spare => uptoBulkAll elems + uptoBulkAll spare + 1
  | .agg parts => uptoBulkAll parts + 1
  | .iface _ d => uptoBulk d + 1
  | .map entries => uptoBulkEntries entries + 1
  | .held _ => 1
def uptoBulkAll {H : Type} : List (DataW H) → Nat
  | [] => 0
  | d :: r => uptoBulk d + uptoBulkAll r
def uptoBulkEntries {H : Type} : List (Lit × DataW H) → Nat
  | [] => 0
  | x :: r => uptoBulkEntry x + uptoBulkEntries r
def uptoBulkEntry {H : Type} : Lit × DataW H → Nat
  | (.string bytes, d) => bytes.length + uptoBulk d + 1
  | (_, d) => uptoBulk d + 1
 end
def uptoSmall : (H : Type) → List (DataW H) → Bool := fun _ ds => decide (uptoBulkAll ds ≤ 1048576)
def OpenSpec.upto (s : _root_.Go.ChangeSpec) : _root_.Go.OpenSpec := { _root_.Go.OpenSpec.ofChange s with cond := some uptoSmall }

/-- 'rosettelaw16.RecipNumbers', WHERE WHAT IT READS IS OF BULK AT MOST 1048576: true; the input reads as it did. -/
def recipNumbersUptoRow : OpenClaim := { program := "ytkhnekfipbbppaa", sum := "51701eaf0858a19d0786f4328532de8163feaa516cdab538789080a27dd2ecde", func := "rosette/rosettelaw16.RecipNumbers", spec := "recipNumbers", inPlace := ["math/bits.Add64", "math/bits.Sub64"], unfollowed := true, recurses := true, named := ["math/bits.divideError", "math/bits.overflowError"], apart := false, narrowed := true }
def RecipNumbersUptoSaid : Prop := recipNumbersUptoRow.holds Try.pinned (OpenSpec.upto recipNumbersSpec)

/-- 'rosettelaw16.RecipTells', WHERE WHAT IT READS IS OF BULK AT MOST 1048576: true; the input reads as it did. -/
def recipTellsUptoRow : OpenClaim := { program := "ytkhnekfipbbppaa", sum := "51701eaf0858a19d0786f4328532de8163feaa516cdab538789080a27dd2ecde", func := "rosette/rosettelaw16.RecipTells", spec := "recipTells", inPlace := ["math/bits.Add64", "math/bits.Sub64"], unfollowed := true, recurses := true, named := ["math/bits.divideError", "math/bits.overflowError"], apart := false, narrowed := true }
def RecipTellsUptoSaid : Prop := recipTellsUptoRow.holds Try.pinned (OpenSpec.upto recipTellsSpec)

/-- 'rosettelaw16.RecipSteps', WHERE WHAT IT READS IS OF BULK AT MOST 1048576: true; the input reads as it did. -/
def recipStepsUptoRow : OpenClaim := { program := "ytkhnekfipbbppaa", sum := "51701eaf0858a19d0786f4328532de8163feaa516cdab538789080a27dd2ecde", func := "rosette/rosettelaw16.RecipSteps", spec := "recipSteps", inPlace := ["math/bits.Add64", "math/bits.Sub64"], unfollowed := true, recurses := true, named := ["math/bits.divideError", "math/bits.overflowError"], apart := false, narrowed := true }
def RecipStepsUptoSaid : Prop := recipStepsUptoRow.holds Try.pinned (OpenSpec.upto recipStepsSpec)

/-- 'rosettelaw16.RecipWithin', WHERE WHAT IT READS IS OF BULK AT MOST 1048576: true; the input reads as it did. -/
def recipWithinUptoRow : OpenClaim := { program := "ytkhnekfipbbppaa", sum := "51701eaf0858a19d0786f4328532de8163feaa516cdab538789080a27dd2ecde", func := "rosette/rosettelaw16.RecipWithin", spec := "recipWithin", inPlace := ["math/bits.Add64", "math/bits.Sub64"], unfollowed := true, recurses := true, named := ["math/bits.divideError", "math/bits.overflowError"], apart := false, narrowed := true }
def RecipWithinUptoSaid : Prop := recipWithinUptoRow.holds Try.pinned (OpenSpec.upto recipWithinSpec)

/-- 'rosettelaw16.RecipComes', WHERE WHAT IT READS IS OF BULK AT MOST 1048576: true; the input reads as it did. -/
def recipComesUptoRow : OpenClaim := { program := "ytkhnekfipbbppaa", sum := "51701eaf0858a19d0786f4328532de8163feaa516cdab538789080a27dd2ecde", func := "rosette/rosettelaw16.RecipComes", spec := "recipComes", inPlace := ["math/bits.Add64", "math/bits.Sub64"], unfollowed := true, recurses := true, named := ["math/bits.divideError", "math/bits.overflowError"], apart := false, narrowed := true }
def RecipComesUptoSaid : Prop := recipComesUptoRow.holds Try.pinned (OpenSpec.upto recipComesSpec)

end Rows
end Go.Proofs.Ytkhnekfipbbppaa
