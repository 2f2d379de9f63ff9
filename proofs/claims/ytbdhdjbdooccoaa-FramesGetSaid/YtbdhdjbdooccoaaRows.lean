/-
  No cell of these rows narrows 'for every input' (looked for: loops, veiled, ifaces, maps, wideKeys, modest, calm, conditions, laid).
  DERIVED. THE GIVEN ROWS OF THIS SEAT. 11 by the template 'for every input the law returns true; each argument reads behind the call as it read before'; 0 by the template 'total and deterministic' (their statements: YtbdhdjbdooccoaaTotals.lean).
  GIVEN WITH THE SEED: the statements are not yours to turn. If you find one false, say at which input.
  Laid BY PROGRAM, IN A SANDBOX (cutbox-rows.mjs): the forced cells as the released guide's own fill.sh prints them over the translation e30503fd5397e963… (all of the seat's roots in one cut). By AI agents, Wed Nov 11 2026. No macro, syntax, notation, axiom, sorry.
-/
import Derived.Test.YtbdhdjbdooccoaaChecked
import GoSem.Claim
import GoSem.ClaimJoined
import GoSem.ClaimMapViews
import Derived.JoinedTies
import Derived.KernelRfl
namespace Go.Proofs.Ytbdhdjbdooccoaa
/- THE CELL 'sum', in the pinned program and in every row, IS THE sha256 OF THE DUMP (.gsa) THAT YtbdhdjbdooccoaaProg.lean LOADS. Nothing in Lean hashes anything: it is a label: what it is worth is what the hold of that sum in a sandbox is worth. -/
noncomputable def Try.pinned : Pinned := { name := "ytbdhdjbdooccoaa", sum := "e30503fd5397e963714b1da08a96c0f6e9b52939eab2cc9effae82f734c7f2ae", checked := Try.checked }
namespace Rows
def none {H : Type} : Left H := { results := [], args := [] }

/-- 'fairwaylaw09.OpsTell': WHATEVER THE INPUT: true; the input reads as it did. -/
def opsTellSpec : ChangeSpec := { name := "opsTell", fn := fun _ => fun
  | [d] => { results := [.lit (.bool true)], args := [d] }
  | _ => none }
def opsTellRow : OpenClaim := { program := "ytbdhdjbdooccoaa", sum := "e30503fd5397e963714b1da08a96c0f6e9b52939eab2cc9effae82f734c7f2ae", func := "fairway/fairwaylaw09.OpsTell", spec := "opsTell", recurses := true, apart := false }
def OpsTellSaid : Prop := opsTellRow.holds Try.pinned (OpenSpec.ofChange opsTellSpec)

/-- ITS FALSE NEIGHBOUR: 'it returns false'. Refute it at one input. -/
def opsTellWrong : ChangeSpec := { name := "opsTell", fn := fun _ => fun
  | [d] => { results := [.lit (.bool false)], args := [d] }
  | _ => none }
def OpsTellWrongFalsely : Prop := opsTellRow.holds Try.pinned (OpenSpec.ofChange opsTellWrong)

/-- 'fairwaylaw09.OpsGet': WHATEVER THE INPUT: true; the input reads as it did. -/
def opsGetSpec : ChangeSpec := { name := "opsGet", fn := fun _ => fun
  | [d] => { results := [.lit (.bool true)], args := [d] }
  | _ => none }
def opsGetRow : OpenClaim := { program := "ytbdhdjbdooccoaa", sum := "e30503fd5397e963714b1da08a96c0f6e9b52939eab2cc9effae82f734c7f2ae", func := "fairway/fairwaylaw09.OpsGet", spec := "opsGet", recurses := true, apart := false }
def OpsGetSaid : Prop := opsGetRow.holds Try.pinned (OpenSpec.ofChange opsGetSpec)

/-- ITS FALSE NEIGHBOUR: 'it returns false'. Refute it at one input. -/
def opsGetWrong : ChangeSpec := { name := "opsGet", fn := fun _ => fun
  | [d] => { results := [.lit (.bool false)], args := [d] }
  | _ => none }
def OpsGetWrongFalsely : Prop := opsGetRow.holds Try.pinned (OpenSpec.ofChange opsGetWrong)

/-- 'fairwaylaw09.OpsForm': WHATEVER THE INPUT: true; the input reads as it did. -/
def opsFormSpec : ChangeSpec := { name := "opsForm", fn := fun _ => fun
  | [d] => { results := [.lit (.bool true)], args := [d] }
  | _ => none }
def opsFormRow : OpenClaim := { program := "ytbdhdjbdooccoaa", sum := "e30503fd5397e963714b1da08a96c0f6e9b52939eab2cc9effae82f734c7f2ae", func := "fairway/fairwaylaw09.OpsForm", spec := "opsForm", apart := false }
def OpsFormSaid : Prop := opsFormRow.holds Try.pinned (OpenSpec.ofChange opsFormSpec)

/-- ITS FALSE NEIGHBOUR: 'it returns false'. Refute it at one input. -/
def opsFormWrong : ChangeSpec := { name := "opsForm", fn := fun _ => fun
  | [d] => { results := [.lit (.bool false)], args := [d] }
  | _ => none }
def OpsFormWrongFalsely : Prop := opsFormRow.holds Try.pinned (OpenSpec.ofChange opsFormWrong)

/-- 'fairwaylaw09.OpsBack': WHATEVER THE INPUT: true; the input reads as it did. -/
def opsBackSpec : ChangeSpec := { name := "opsBack", fn := fun _ => fun
  | [d1, d2] => { results := [.lit (.bool true)], args := [d1, d2] }
  | _ => none }
def opsBackRow : OpenClaim := { program := "ytbdhdjbdooccoaa", sum := "e30503fd5397e963714b1da08a96c0f6e9b52939eab2cc9effae82f734c7f2ae", func := "fairway/fairwaylaw09.OpsBack", spec := "opsBack", apart := false }
def OpsBackSaid : Prop := opsBackRow.holds Try.pinned (OpenSpec.ofChange opsBackSpec)

/-- ITS FALSE NEIGHBOUR: 'it returns false'. Refute it at one input. -/
def opsBackWrong : ChangeSpec := { name := "opsBack", fn := fun _ => fun
  | [d1, d2] => { results := [.lit (.bool false)], args := [d1, d2] }
  | _ => none }
def OpsBackWrongFalsely : Prop := opsBackRow.holds Try.pinned (OpenSpec.ofChange opsBackWrong)

/-- 'fairwaylaw12.ChainsMove': WHATEVER THE INPUT: true; the input reads as it did. -/
def chainsMoveSpec : ChangeSpec := { name := "chainsMove", fn := fun _ => fun
  | [d1, d2] => { results := [.lit (.bool true)], args := [d1, d2] }
  | _ => none }
def chainsMoveRow : OpenClaim := { program := "ytbdhdjbdooccoaa", sum := "e30503fd5397e963714b1da08a96c0f6e9b52939eab2cc9effae82f734c7f2ae", func := "fairway/fairwaylaw12.ChainsMove", spec := "chainsMove", unfollowed := true, recurses := true, apart := false }
def ChainsMoveSaid : Prop := chainsMoveRow.holds Try.pinned (OpenSpec.ofChange chainsMoveSpec)

/-- ITS FALSE NEIGHBOUR: 'it returns false'. Refute it at one input. -/
def chainsMoveWrong : ChangeSpec := { name := "chainsMove", fn := fun _ => fun
  | [d1, d2] => { results := [.lit (.bool false)], args := [d1, d2] }
  | _ => none }
def ChainsMoveWrongFalsely : Prop := chainsMoveRow.holds Try.pinned (OpenSpec.ofChange chainsMoveWrong)

/-- 'fairwaylaw12.ChainsEnds': WHATEVER THE INPUT: true; the input reads as it did. -/
def chainsEndsSpec : ChangeSpec := { name := "chainsEnds", fn := fun _ => fun
  | [d1, d2] => { results := [.lit (.bool true)], args := [d1, d2] }
  | _ => none }
def chainsEndsRow : OpenClaim := { program := "ytbdhdjbdooccoaa", sum := "e30503fd5397e963714b1da08a96c0f6e9b52939eab2cc9effae82f734c7f2ae", func := "fairway/fairwaylaw12.ChainsEnds", spec := "chainsEnds", unfollowed := true, recurses := true, apart := false }
def ChainsEndsSaid : Prop := chainsEndsRow.holds Try.pinned (OpenSpec.ofChange chainsEndsSpec)

/-- ITS FALSE NEIGHBOUR: 'it returns false'. Refute it at one input. -/
def chainsEndsWrong : ChangeSpec := { name := "chainsEnds", fn := fun _ => fun
  | [d1, d2] => { results := [.lit (.bool false)], args := [d1, d2] }
  | _ => none }
def ChainsEndsWrongFalsely : Prop := chainsEndsRow.holds Try.pinned (OpenSpec.ofChange chainsEndsWrong)

/-- 'fairwaylaw12.ChainsGet': WHATEVER THE INPUT: true; the input reads as it did. -/
def chainsGetSpec : ChangeSpec := { name := "chainsGet", fn := fun _ => fun
  | [d] => { results := [.lit (.bool true)], args := [d] }
  | _ => none }
def chainsGetRow : OpenClaim := { program := "ytbdhdjbdooccoaa", sum := "e30503fd5397e963714b1da08a96c0f6e9b52939eab2cc9effae82f734c7f2ae", func := "fairway/fairwaylaw12.ChainsGet", spec := "chainsGet", unfollowed := true, recurses := true, apart := false }
def ChainsGetSaid : Prop := chainsGetRow.holds Try.pinned (OpenSpec.ofChange chainsGetSpec)

/-- ITS FALSE NEIGHBOUR: 'it returns false'. Refute it at one input. -/
def chainsGetWrong : ChangeSpec := { name := "chainsGet", fn := fun _ => fun
  | [d] => { results := [.lit (.bool false)], args := [d] }
  | _ => none }
def ChainsGetWrongFalsely : Prop := chainsGetRow.holds Try.pinned (OpenSpec.ofChange chainsGetWrong)

/-- 'fairwaylaw12.ChainsBack': WHATEVER THE INPUT: true; the input reads as it did. -/
def chainsBackSpec : ChangeSpec := { name := "chainsBack", fn := fun _ => fun
  | [d1, d2] => { results := [.lit (.bool true)], args := [d1, d2] }
  | _ => none }
def chainsBackRow : OpenClaim := { program := "ytbdhdjbdooccoaa", sum := "e30503fd5397e963714b1da08a96c0f6e9b52939eab2cc9effae82f734c7f2ae", func := "fairway/fairwaylaw12.ChainsBack", spec := "chainsBack", unfollowed := true, recurses := true, apart := false }
def ChainsBackSaid : Prop := chainsBackRow.holds Try.pinned (OpenSpec.ofChange chainsBackSpec)

/-- ITS FALSE NEIGHBOUR: 'it returns false'. Refute it at one input. -/
def chainsBackWrong : ChangeSpec := { name := "chainsBack", fn := fun _ => fun
  | [d1, d2] => { results := [.lit (.bool false)], args := [d1, d2] }
  | _ => none }
def ChainsBackWrongFalsely : Prop := chainsBackRow.holds Try.pinned (OpenSpec.ofChange chainsBackWrong)

/-- 'fairwaylaw13.FramesGet': WHATEVER THE INPUT: true; the input reads as it did. -/
def framesGetSpec : ChangeSpec := { name := "framesGet", fn := fun _ => fun
  | [d] => { results := [.lit (.bool true)], args := [d] }
  | _ => none }
def framesGetRow : OpenClaim := { program := "ytbdhdjbdooccoaa", sum := "e30503fd5397e963714b1da08a96c0f6e9b52939eab2cc9effae82f734c7f2ae", func := "fairway/fairwaylaw13.FramesGet", spec := "framesGet", unfollowed := true, recurses := true, apart := false }
def FramesGetSaid : Prop := framesGetRow.holds Try.pinned (OpenSpec.ofChange framesGetSpec)

/-- ITS FALSE NEIGHBOUR: 'it returns false'. Refute it at one input. -/
def framesGetWrong : ChangeSpec := { name := "framesGet", fn := fun _ => fun
  | [d] => { results := [.lit (.bool false)], args := [d] }
  | _ => none }
def FramesGetWrongFalsely : Prop := framesGetRow.holds Try.pinned (OpenSpec.ofChange framesGetWrong)

/-- 'fairwaylaw13.FramesBack': WHATEVER THE INPUT: true; the input reads as it did. -/
def framesBackSpec : ChangeSpec := { name := "framesBack", fn := fun _ => fun
  | [d1, d2] => { results := [.lit (.bool true)], args := [d1, d2] }
  | _ => none }
def framesBackRow : OpenClaim := { program := "ytbdhdjbdooccoaa", sum := "e30503fd5397e963714b1da08a96c0f6e9b52939eab2cc9effae82f734c7f2ae", func := "fairway/fairwaylaw13.FramesBack", spec := "framesBack", unfollowed := true, recurses := true, apart := false }
def FramesBackSaid : Prop := framesBackRow.holds Try.pinned (OpenSpec.ofChange framesBackSpec)

/-- ITS FALSE NEIGHBOUR: 'it returns false'. Refute it at one input. -/
def framesBackWrong : ChangeSpec := { name := "framesBack", fn := fun _ => fun
  | [d1, d2] => { results := [.lit (.bool false)], args := [d1, d2] }
  | _ => none }
def FramesBackWrongFalsely : Prop := framesBackRow.holds Try.pinned (OpenSpec.ofChange framesBackWrong)

/-- 'fairwaylaw13.FramesForm': WHATEVER THE INPUT: true; the input reads as it did. -/
def framesFormSpec : ChangeSpec := { name := "framesForm", fn := fun _ => fun
  | [d] => { results := [.lit (.bool true)], args := [d] }
  | _ => none }
def framesFormRow : OpenClaim := { program := "ytbdhdjbdooccoaa", sum := "e30503fd5397e963714b1da08a96c0f6e9b52939eab2cc9effae82f734c7f2ae", func := "fairway/fairwaylaw13.FramesForm", spec := "framesForm", unfollowed := true, recurses := true, apart := false }
def FramesFormSaid : Prop := framesFormRow.holds Try.pinned (OpenSpec.ofChange framesFormSpec)

/-- ITS FALSE NEIGHBOUR: 'it returns false'. Refute it at one input. -/
def framesFormWrong : ChangeSpec := { name := "framesForm", fn := fun _ => fun
  | [d] => { results := [.lit (.bool false)], args := [d] }
  | _ => none }
def FramesFormWrongFalsely : Prop := framesFormRow.holds Try.pinned (OpenSpec.ofChange framesFormWrong)

/- THE SECOND FORM. 'bulk': how many values and letters a reading holds, each counted each time it is reached (what is shared counts as often as it is met; a slice's spare places count too). A statement '..UptoSaid' is the law's where the arguments, and the package variables that the reading takes, are together of bulk at most 1048576: NARROWER than '..Said'. Prove '..Said' where nothing that the law and all that it calls make is longer than what came in: it says more and counts as full. Else prove '..UptoSaid'. A law counts once. -/
mutual
def uptoBulk {H : Type} : DataW H → Nat
  | .lit (.string bytes) => bytes.length + 1
  | .lit _ => 1
  | .nil => 1
  | .ptr d => uptoBulk d + 1
  | .slice elems spare => uptoBulkAll elems + uptoBulkAll spare + 1
  | .agg parts => uptoBulkAll parts + 1
  | .iface _ d => uptoBulk d + 1
  | .map entries => uptoBulkEntries entries + 1
  | .held _ => 1
def uptoBulkAll {H : Type} : List (DataW H) → Nat
  | [] => 0
  | d :: r => uptoBulk d + uptoBulkAll r
def uptoBulkEntries {H : Type} : List (Lit × DataW H) → Nat
  | [] => 0
  | x :: r => uptoBulkEntry x + uptoBulkEntries r
def uptoBulkEntry {H : Type} : Lit × DataW H → Nat
  | (.string bytes, d) => bytes.length + uptoBulk d + 1
  | (_, d) => uptoBulk d + 1
 end
def uptoSmall : (H : Type) → List (DataW H) → Bool := fun _ ds => decide (uptoBulkAll ds ≤ 1048576)
def OpenSpec.upto (s : _root_.Go.ChangeSpec) : _root_.Go.OpenSpec := { _root_.Go.OpenSpec.ofChange s with cond := some uptoSmall }

/-- 'fairwaylaw09.OpsTell', WHERE WHAT IT READS IS OF BULK AT MOST 1048576: true; the input reads as it did. -/
def opsTellUptoRow : OpenClaim := { program := "ytbdhdjbdooccoaa", sum := "e30503fd5397e963714b1da08a96c0f6e9b52939eab2cc9effae82f734c7f2ae", func := "fairway/fairwaylaw09.OpsTell", spec := "opsTell", recurses := true, apart := false, narrowed := true }
def OpsTellUptoSaid : Prop := opsTellUptoRow.holds Try.pinned (OpenSpec.upto opsTellSpec)

/-- 'fairwaylaw09.OpsGet', WHERE WHAT IT READS IS OF BULK AT MOST 1048576: true; the input reads as it did. -/
def opsGetUptoRow : OpenClaim := { program := "ytbdhdjbdooccoaa", sum := "e30503fd5397e963714b1da08a96c0f6e9b52939eab2cc9effae82f734c7f2ae", func := "fairway/fairwaylaw09.OpsGet", spec := "opsGet", recurses := true, apart := false, narrowed := true }
def OpsGetUptoSaid : Prop := opsGetUptoRow.holds Try.pinned (OpenSpec.upto opsGetSpec)

/-- 'fairwaylaw09.OpsForm', WHERE WHAT IT READS IS OF BULK AT MOST 1048576: true; the input reads as it did. -/
def opsFormUptoRow : OpenClaim := { program := "ytbdhdjbdooccoaa", sum := "e30503fd5397e963714b1da08a96c0f6e9b52939eab2cc9effae82f734c7f2ae", func := "fairway/fairwaylaw09.OpsForm", spec := "opsForm", apart := false, narrowed := true }
def OpsFormUptoSaid : Prop := opsFormUptoRow.holds Try.pinned (OpenSpec.upto opsFormSpec)

/-- 'fairwaylaw09.OpsBack', WHERE WHAT IT READS IS OF BULK AT MOST 1048576: true; the input reads as it did. -/
def opsBackUptoRow : OpenClaim := { program := "ytbdhdjbdooccoaa", sum := "e30503fd5397e963714b1da08a96c0f6e9b52939eab2cc9effae82f734c7f2ae", func := "fairway/fairwaylaw09.OpsBack", spec := "opsBack", apart := false, narrowed := true }
def OpsBackUptoSaid : Prop := opsBackUptoRow.holds Try.pinned (OpenSpec.upto opsBackSpec)

/-- 'fairwaylaw12.ChainsMove', WHERE WHAT IT READS IS OF BULK AT MOST 1048576: true; the input reads as it did. -/
def chainsMoveUptoRow : OpenClaim := { program := "ytbdhdjbdooccoaa", sum := "e30503fd5397e963714b1da08a96c0f6e9b52939eab2cc9effae82f734c7f2ae", func := "fairway/fairwaylaw12.ChainsMove", spec := "chainsMove", unfollowed := true, recurses := true, apart := false, narrowed := true }
def ChainsMoveUptoSaid : Prop := chainsMoveUptoRow.holds Try.pinned (OpenSpec.upto chainsMoveSpec)

/-- 'fairwaylaw12.ChainsEnds', WHERE WHAT IT READS IS OF BULK AT MOST 1048576: true; the input reads as it did. -/
def chainsEndsUptoRow : OpenClaim := { program := "ytbdhdjbdooccoaa", sum := "e30503fd5397e963714b1da08a96c0f6e9b52939eab2cc9effae82f734c7f2ae", func := "fairway/fairwaylaw12.ChainsEnds", spec := "chainsEnds", unfollowed := true, recurses := true, apart := false, narrowed := true }
def ChainsEndsUptoSaid : Prop := chainsEndsUptoRow.holds Try.pinned (OpenSpec.upto chainsEndsSpec)

/-- 'fairwaylaw12.ChainsGet', WHERE WHAT IT READS IS OF BULK AT MOST 1048576: true; the input reads as it did. -/
def chainsGetUptoRow : OpenClaim := { program := "ytbdhdjbdooccoaa", sum := "e30503fd5397e963714b1da08a96c0f6e9b52939eab2cc9effae82f734c7f2ae", func := "fairway/fairwaylaw12.ChainsGet", spec := "chainsGet", unfollowed := true, recurses := true, apart := false, narrowed := true }
def ChainsGetUptoSaid : Prop := chainsGetUptoRow.holds Try.pinned (OpenSpec.upto chainsGetSpec)

/-- 'fairwaylaw12.ChainsBack', WHERE WHAT IT READS IS OF BULK AT MOST 1048576: true; the input reads as it did. -/
def chainsBackUptoRow : OpenClaim := { program := "ytbdhdjbdooccoaa", sum := "e30503fd5397e963714b1da08a96c0f6e9b52939eab2cc9effae82f734c7f2ae", func := "fairway/fairwaylaw12.ChainsBack", spec := "chainsBack", unfollowed := true, recurses := true, apart := false, narrowed := true }
def ChainsBackUptoSaid : Prop := chainsBackUptoRow.holds Try.pinned (OpenSpec.upto chainsBackSpec)

/-- 'fairwaylaw13.FramesGet', WHERE WHAT IT READS IS OF BULK AT MOST 1048576: true; the input reads as it did. -/
def framesGetUptoRow : OpenClaim := { program := "ytbdhdjbdooccoaa", sum := "e30503fd5397e963714b1da08a96c0f6e9b52939eab2cc9effae82f734c7f2ae", func := "fairway/fairwaylaw13.FramesGet", spec := "framesGet", unfollowed := true, recurses := true, apart := false, narrowed := true }
def FramesGetUptoSaid : Prop := framesGetUptoRow.holds Try.pinned (OpenSpec.upto framesGetSpec)

/-- 'fairwaylaw13.FramesBack', WHERE WHAT IT READS IS OF BULK AT MOST 1048576: true; the input reads as it did. -/
def framesBackUptoRow : OpenClaim := { program := "ytbdhdjbdooccoaa", sum := "e30503fd5397e963714b1da08a96c0f6e9b52939eab2cc9effae82f734c7f2ae", func := "fairway/fairwaylaw13.FramesBack", spec := "framesBack", unfollowed := true, recurses := true, apart := false, narrowed := true }
def FramesBackUptoSaid : Prop := framesBackUptoRow.holds Try.pinned (OpenSpec.upto framesBackSpec)

/-- 'fairwaylaw13.FramesForm', WHERE WHAT IT READS IS OF BULK AT MOST 1048576: true; the input reads as it did. -/
def framesFormUptoRow : OpenClaim := { program := "ytbdhdjbdooccoaa", sum := "e30503fd5397e963714b1da08a96c0f6e9b52939eab2cc9effae82f734c7f2ae", func := "fairway/fairwaylaw13.FramesForm", spec := "framesForm", unfollowed := true, recurses := true, apart := false, narrowed := true }
def FramesFormUptoSaid : Prop := framesFormUptoRow.holds Try.pinned (OpenSpec.upto framesFormSpec)

end Rows
end Go.Proofs.Ytbdhdjbdooccoaa
