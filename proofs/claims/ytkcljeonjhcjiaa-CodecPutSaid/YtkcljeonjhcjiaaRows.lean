/-
  No cell of these rows narrows 'for every input' (looked for: loops, veiled, ifaces, maps, wideKeys, modest, calm, conditions, laid).
  DERIVED. THE GIVEN ROWS OF THIS SEAT. 4 by the template 'for every input the law returns true; each argument reads behind the call as it read before'; 0 by the template 'total and deterministic' (their statements: YtkcljeonjhcjiaaTotals.lean).
  GIVEN WITH THE SEED: the statements are not yours to turn. If you find one false, say at which input.
  Laid BY PROGRAM, IN A SANDBOX (cutbox-rows.mjs): the forced cells as the released guide's own fill.sh prints them over the translation 67184743423f8966… (all of the seat's roots in one cut). By AI agents, Wed Nov 11 2026. No macro, syntax, notation, axiom, sorry.
-/
import Derived.Test.YtkcljeonjhcjiaaChecked
import GoSem.Claim
import GoSem.ClaimJoined
import GoSem.ClaimMapViews
import Derived.JoinedTies
import Derived.KernelRfl
namespace Go.Proofs.Ytkcljeonjhcjiaa
/- THE CELL 'sum', in the pinned program and in every row, IS THE sha256 OF THE DUMP (.gsa) THAT YtkcljeonjhcjiaaProg.lean LOADS. Nothing in Lean hashes anything: it is a label: what it is worth is what the hold of that sum in a sandbox is worth. -/
noncomputable def Try.pinned : Pinned := { name := "ytkcljeonjhcjiaa", sum := "67184743423f89664a4fb9930b5eb4c09de109cce778d0678232432e5494aa61", checked := Try.checked }
namespace Rows
def none {H : Type} : Left H := { results := [], args := [] }

/-- 'fairwaylaw02.CodecPut': WHATEVER THE INPUT: true; the input reads as it did. -/
def codecPutSpec : ChangeSpec := { name := "codecPut", fn := fun _ => fun
  | [d1, d2, d3] => { results := [.lit (.bool true)], args := [d1, d2, d3] }
  | _ => none }
def codecPutRow : OpenClaim := { program := "ytkcljeonjhcjiaa", sum := "67184743423f89664a4fb9930b5eb4c09de109cce778d0678232432e5494aa61", func := "fairway/fairwaylaw02.CodecPut", spec := "codecPut", recurses := true, apart := false }
def CodecPutSaid : Prop := codecPutRow.holds Try.pinned (OpenSpec.ofChange codecPutSpec)

/-- ITS FALSE NEIGHBOUR: 'it returns false'. Refute it at one input. -/
def codecPutWrong : ChangeSpec := { name := "codecPut", fn := fun _ => fun
  | [d1, d2, d3] => { results := [.lit (.bool false)], args := [d1, d2, d3] }
  | _ => none }
def CodecPutWrongFalsely : Prop := codecPutRow.holds Try.pinned (OpenSpec.ofChange codecPutWrong)

/-- 'fairwaylaw02.CodecRead': WHATEVER THE INPUT: true; the input reads as it did. -/
def codecReadSpec : ChangeSpec := { name := "codecRead", fn := fun _ => fun
  | [d] => { results := [.lit (.bool true)], args := [d] }
  | _ => none }
def codecReadRow : OpenClaim := { program := "ytkcljeonjhcjiaa", sum := "67184743423f89664a4fb9930b5eb4c09de109cce778d0678232432e5494aa61", func := "fairway/fairwaylaw02.CodecRead", spec := "codecRead", recurses := true, apart := false }
def CodecReadSaid : Prop := codecReadRow.holds Try.pinned (OpenSpec.ofChange codecReadSpec)

/-- ITS FALSE NEIGHBOUR: 'it returns false'. Refute it at one input. -/
def codecReadWrong : ChangeSpec := { name := "codecRead", fn := fun _ => fun
  | [d] => { results := [.lit (.bool false)], args := [d] }
  | _ => none }
def CodecReadWrongFalsely : Prop := codecReadRow.holds Try.pinned (OpenSpec.ofChange codecReadWrong)

/-- 'fairwaylaw02.CodecBack': WHATEVER THE INPUT: true; the input reads as it did. -/
def codecBackSpec : ChangeSpec := { name := "codecBack", fn := fun _ => fun
  | [d1, d2, d3] => { results := [.lit (.bool true)], args := [d1, d2, d3] }
  | _ => none }
def codecBackRow : OpenClaim := { program := "ytkcljeonjhcjiaa", sum := "67184743423f89664a4fb9930b5eb4c09de109cce778d0678232432e5494aa61", func := "fairway/fairwaylaw02.CodecBack", spec := "codecBack", apart := false }
def CodecBackSaid : Prop := codecBackRow.holds Try.pinned (OpenSpec.ofChange codecBackSpec)

/-- ITS FALSE NEIGHBOUR: 'it returns false'. Refute it at one input. -/
def codecBackWrong : ChangeSpec := { name := "codecBack", fn := fun _ => fun
  | [d1, d2, d3] => { results := [.lit (.bool false)], args := [d1, d2, d3] }
  | _ => none }
def CodecBackWrongFalsely : Prop := codecBackRow.holds Try.pinned (OpenSpec.ofChange codecBackWrong)

/-- 'fairwaylaw02.CodecForm': WHATEVER THE INPUT: true; the input reads as it did. -/
def codecFormSpec : ChangeSpec := { name := "codecForm", fn := fun _ => fun
  | [d] => { results := [.lit (.bool true)], args := [d] }
  | _ => none }
def codecFormRow : OpenClaim := { program := "ytkcljeonjhcjiaa", sum := "67184743423f89664a4fb9930b5eb4c09de109cce778d0678232432e5494aa61", func := "fairway/fairwaylaw02.CodecForm", spec := "codecForm", apart := false }
def CodecFormSaid : Prop := codecFormRow.holds Try.pinned (OpenSpec.ofChange codecFormSpec)

/-- ITS FALSE NEIGHBOUR: 'it returns false'. Refute it at one input. -/
def codecFormWrong : ChangeSpec := { name := "codecForm", fn := fun _ => fun
  | [d] => { results := [.lit (.bool false)], args := [d] }
  | _ => none }
def CodecFormWrongFalsely : Prop := codecFormRow.holds Try.pinned (OpenSpec.ofChange codecFormWrong)

/- THE SECOND FORM. 'bulk': how many values and letters a reading holds, each counted each time it is reached (what is shared counts as often as it is met; a slice's spare places count too). A statement '..UptoSaid' is the law's where the arguments, and the package variables that the reading takes, are together of bulk at most 1048576: NARROWER than '..Said'. Prove '..Said' where nothing that the law and all that it calls make is longer than what came in: it says more and counts as full. Else prove '..UptoSaid'. A law counts once. -/
mutual
def uptoBulk {H : Type} : DataW H → Nat
  | .lit (.string bytes) => bytes.length + 1
  | .lit _ => 1
  | .nil => 1
  | .ptr d => uptoBulk d + 1
  | .slice elems spare => uptoBulkAll elems + uptoBulkAll spare + 1
  | .agg parts => uptoBulkAll parts + 1
  | .iface _ d => uptoBulk d + 1
  | .map entries => uptoBulkEntries entries + 1
  | .held _ => 1
def uptoBulkAll {H : Type} : List (DataW H) → Nat
  | [] => 0
  | d :: r => uptoBulk d + uptoBulkAll r
def uptoBulkEntries {H : Type} : List (Lit × DataW H) → Nat
  | [] => 0
  | x :: r => uptoBulkEntry x + uptoBulkEntries r
def uptoBulkEntry {H : Type} : Lit × DataW H → Nat
  | (.string bytes, d) => bytes.length + uptoBulk d + 1
  | (_, d) => uptoBulk d + 1
 end
def uptoSmall : (H : Type) → List (DataW H) → Bool := fun _ ds => decide (uptoBulkAll ds ≤ 1048576)
def OpenSpec.upto (s : _root_.Go.ChangeSpec) : _root_.Go.OpenSpec := { _root_.Go.OpenSpec.ofChange s with cond := some uptoSmall }

/-- 'fairwaylaw02.CodecPut', WHERE WHAT IT READS IS OF BULK AT MOST 1048576: true; the input reads as it did. -/
def codecPutUptoRow : OpenClaim := { program := "ytkcljeonjhcjiaa", sum := "67184743423f89664a4fb9930b5eb4c09de109cce778d0678232432e5494aa61", func := "fairway/fairwaylaw02.CodecPut", spec := "codecPut", recurses := true, apart := false, narrowed := true }
def CodecPutUptoSaid : Prop := codecPutUptoRow.holds Try.pinned (OpenSpec.upto codecPutSpec)

/-- 'fairwaylaw02.CodecRead', WHERE WHAT IT READS IS OF BULK AT MOST 1048576: true; the input reads as it did. -/
def codecReadUptoRow : OpenClaim := { program := "ytkcljeonjhcjiaa", sum := "67184743423f89664a4fb9930b5eb4c09de109cce778d0678232432e5494aa61", func := "fairway/fairwaylaw02.CodecRead", spec := "codecRead", recurses := true, apart := false, narrowed := true }
def CodecReadUptoSaid : Prop := codecReadUptoRow.holds Try.pinned (OpenSpec.upto codecReadSpec)

/-- 'fairwaylaw02.CodecBack', WHERE WHAT IT READS IS OF BULK AT MOST 1048576: true; the input reads as it did. -/
def codecBackUptoRow : OpenClaim := { program := "ytkcljeonjhcjiaa", sum := "67184743423f89664a4fb9930b5eb4c09de109cce778d0678232432e5494aa61", func := "fairway/fairwaylaw02.CodecBack", spec := "codecBack", apart := false, narrowed := true }
def CodecBackUptoSaid : Prop := codecBackUptoRow.holds Try.pinned (OpenSpec.upto codecBackSpec)

/-- 'fairwaylaw02.CodecForm', WHERE WHAT IT READS IS OF BULK AT MOST 1048576: true; the input reads as it did. -/
def codecFormUptoRow : OpenClaim := { program := "ytkcljeonjhcjiaa", sum := "67184743423f89664a4fb9930b5eb4c09de109cce778d0678232432e5494aa61", func := "fairway/fairwaylaw02.CodecForm", spec := "codecForm", apart := false, narrowed := true }
def CodecFormUptoSaid : Prop := codecFormUptoRow.holds Try.pinned (OpenSpec.upto codecFormSpec)

end Rows
end Go.Proofs.Ytkcljeonjhcjiaa
