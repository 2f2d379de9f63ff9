/-
  No cell of these rows narrows 'for every input' (looked for: loops, veiled, ifaces, maps, wideKeys, modest, calm, conditions, laid).
  DERIVED. THE GIVEN ROWS OF THIS SEAT. 3 by the template 'for every input the law returns true; each argument reads behind the call as it read before'; 0 by the template 'total and deterministic' (their statements: YtfmgjffdompohaaTotals.lean).
  GIVEN WITH THE SEED: the statements are not yours to turn. If you find one false, say at which input.
  Laid BY PROGRAM, IN A SANDBOX (cutbox-rows.mjs): the forced cells as the released guide's own fill.sh prints them over the translation 53f1f75a85e575d2… (all of the seat's roots in one cut). By AI agents, Wed Nov 11 2026. No macro, syntax, notation, axiom, sorry.
-/
import Derived.Test.YtfmgjffdompohaaChecked
import GoSem.Claim
import GoSem.ClaimJoined
import GoSem.ClaimMapViews
import Derived.JoinedTies
import Derived.KernelRfl
namespace Go.Proofs.Ytfmgjffdompohaa
/- THE CELL 'sum', in the pinned program and in every row, IS THE sha256 OF THE DUMP (.gsa) THAT YtfmgjffdompohaaProg.lean LOADS. Nothing in Lean hashes anything: it is a label: what it is worth is what the hold of that sum in a sandbox is worth. -/
noncomputable def Try.pinned : Pinned := { name := "ytfmgjffdompohaa", sum := "53f1f75a85e575d2c38f340b4690898b14d672a23ad036f5074a06670cc83db3", checked := Try.checked }
namespace Rows
def none {H : Type} : Left H := { results := [], args := [] }

/-- 'fairwaylaw01.NumsTell': WHATEVER THE INPUT: true; the input reads as it did. -/
def numsTellSpec : ChangeSpec := { name := "numsTell", fn := fun _ => fun
  | [d1, d2, d3] => { results := [.lit (.bool true)], args := [d1, d2, d3] }
  | _ => none }
def numsTellRow : OpenClaim := { program := "ytfmgjffdompohaa", sum := "53f1f75a85e575d2c38f340b4690898b14d672a23ad036f5074a06670cc83db3", func := "fairway/fairwaylaw01.NumsTell", spec := "numsTell", apart := false }
def NumsTellSaid : Prop := numsTellRow.holds Try.pinned (OpenSpec.ofChange numsTellSpec)

/-- ITS FALSE NEIGHBOUR: 'it returns false'. Refute it at one input. -/
def numsTellWrong : ChangeSpec := { name := "numsTell", fn := fun _ => fun
  | [d1, d2, d3] => { results := [.lit (.bool false)], args := [d1, d2, d3] }
  | _ => none }
def NumsTellWrongFalsely : Prop := numsTellRow.holds Try.pinned (OpenSpec.ofChange numsTellWrong)

/-- 'fairwaylaw01.NumsWithin': WHATEVER THE INPUT: true; the input reads as it did. -/
def numsWithinSpec : ChangeSpec := { name := "numsWithin", fn := fun _ => fun
  | [d1, d2, d3] => { results := [.lit (.bool true)], args := [d1, d2, d3] }
  | _ => none }
def numsWithinRow : OpenClaim := { program := "ytfmgjffdompohaa", sum := "53f1f75a85e575d2c38f340b4690898b14d672a23ad036f5074a06670cc83db3", func := "fairway/fairwaylaw01.NumsWithin", spec := "numsWithin", apart := false }
def NumsWithinSaid : Prop := numsWithinRow.holds Try.pinned (OpenSpec.ofChange numsWithinSpec)

/-- ITS FALSE NEIGHBOUR: 'it returns false'. Refute it at one input. -/
def numsWithinWrong : ChangeSpec := { name := "numsWithin", fn := fun _ => fun
  | [d1, d2, d3] => { results := [.lit (.bool false)], args := [d1, d2, d3] }
  | _ => none }
def NumsWithinWrongFalsely : Prop := numsWithinRow.holds Try.pinned (OpenSpec.ofChange numsWithinWrong)

/-- 'fairwaylaw01.NumsCeil': WHATEVER THE INPUT: true; the input reads as it did. -/
def numsCeilSpec : ChangeSpec := { name := "numsCeil", fn := fun _ => fun
  | [d1, d2, d3] => { results := [.lit (.bool true)], args := [d1, d2, d3] }
  | _ => none }
def numsCeilRow : OpenClaim := { program := "ytfmgjffdompohaa", sum := "53f1f75a85e575d2c38f340b4690898b14d672a23ad036f5074a06670cc83db3", func := "fairway/fairwaylaw01.NumsCeil", spec := "numsCeil", apart := false }
def NumsCeilSaid : Prop := numsCeilRow.holds Try.pinned (OpenSpec.ofChange numsCeilSpec)

/-- ITS FALSE NEIGHBOUR: 'it returns false'. Refute it at one input. -/
def numsCeilWrong : ChangeSpec := { name := "numsCeil", fn := fun _ => fun
  | [d1, d2, d3] => { results := [.lit (.bool false)], args := [d1, d2, d3] }
  | _ => none }
def NumsCeilWrongFalsely : Prop := numsCeilRow.holds Try.pinned (OpenSpec.ofChange numsCeilWrong)

/- THE SECOND FORM. 'bulk': how many values and letters a reading holds, each counted each time it is reached (what is shared counts as often as it is met; a slice's spare places count too). A statement '..UptoSaid' is the law's where the arguments, and the package variables that the reading takes, are together of bulk at most 1048576: NARROWER than '..Said'. Prove '..Said' where nothing that the law and all that it calls make is longer than what came in: it says more and counts as full. Else prove '..UptoSaid'. A law counts once. -/
mutual
def uptoBulk {H : Type} : DataW H → Nat
  | .lit (.string bytes) => bytes.length + 1
  | .lit _ => 1
  | .nil => 1
  | .ptr d => uptoBulk d + 1
  | .slice elems spare => uptoBulkAll elems + uptoBulkAll spare + 1
  | .agg parts => uptoBulkAll parts + 1
  | .iface _ d => uptoBulk d + 1
  | .map entries => uptoBulkEntries entries + 1
  | .held _ => 1
def uptoBulkAll {H : Type} : List (DataW H) → Nat
  | [] => 0
  | d :: r => uptoBulk d + uptoBulkAll r
def uptoBulkEntries {H : Type} : List (Lit × DataW H) → Nat
  | [] => 0
  | x :: r => uptoBulkEntry x + uptoBulkEntries r
def uptoBulkEntry {H : Type} : Lit × DataW H → Nat
  | (.string bytes, d) => bytes.length + uptoBulk d + 1
  | (_, d) => uptoBulk d + 1
 end
def uptoSmall : (H : Type) → List (DataW H) → Bool := fun _ ds => decide (uptoBulkAll ds ≤ 1048576)
def OpenSpec.upto (s : _root_.Go.ChangeSpec) : _root_.Go.OpenSpec := { _root_.Go.OpenSpec.ofChange s with cond := some uptoSmall }

/-- 'fairwaylaw01.NumsTell', WHERE WHAT IT READS IS OF BULK AT MOST 1048576: true; the input reads as it did. -/
def numsTellUptoRow : OpenClaim := { program := "ytfmgjffdompohaa", sum := "53f1f75a85e575d2c38f340b4690898b14d672a23ad036f5074a06670cc83db3", func := "fairway/fairwaylaw01.NumsTell", spec := "numsTell", apart := false, narrowed := true }
def NumsTellUptoSaid : Prop := numsTellUptoRow.holds Try.pinned (OpenSpec.upto numsTellSpec)

/-- 'fairwaylaw01.NumsWithin', WHERE WHAT IT READS IS OF BULK AT MOST 1048576: true; the input reads as it did. -/
def numsWithinUptoRow : OpenClaim := { program := "ytfmgjffdompohaa", sum := "53f1f75a85e575d2c38f340b4690898b14d672a23ad036f5074a06670cc83db3", func := "fairway/fairwaylaw01.NumsWithin", spec := "numsWithin", apart := false, narrowed := true }
def NumsWithinUptoSaid : Prop := numsWithinUptoRow.holds Try.pinned (OpenSpec.upto numsWithinSpec)

/-- 'fairwaylaw01.NumsCeil', WHERE WHAT IT READS IS OF BULK AT MOST 1048576: true; the input reads as it did. -/
def numsCeilUptoRow : OpenClaim := { program := "ytfmgjffdompohaa", sum := "53f1f75a85e575d2c38f340b4690898b14d672a23ad036f5074a06670cc83db3", func := "fairway/fairwaylaw01.NumsCeil", spec := "numsCeil", apart := false, narrowed := true }
def NumsCeilUptoSaid : Prop := numsCeilUptoRow.holds Try.pinned (OpenSpec.upto numsCeilSpec)

end Rows
end Go.Proofs.Ytfmgjffdompohaa
