/-
  No cell of these rows narrows 'for every input' (looked for: loops, veiled, ifaces, maps, wideKeys, modest, calm, conditions, laid).
  DERIVED. THE GIVEN ROWS OF THIS SEAT. 9 by the template 'for every input the law returns true; each argument reads behind the call as it read before'; 0 by the template 'total and deterministic' (their statements: YtljipmhkpnigkaaTotals.lean).
  GIVEN WITH THE SEED: the statements are not yours to turn. If you find one false, say at which input.
  Laid BY PROGRAM, IN A SANDBOX (cutbox-rows.mjs): the forced cells as the released guide's own fill.sh prints them over the translation cd1a7146ccc41828… (all of the seat's roots in one cut). By AI agents, Wed Nov 11 2026. No macro, syntax, notation, axiom, sorry.
-/
import Derived.Test.YtljipmhkpnigkaaChecked
import GoSem.Claim
import GoSem.ClaimJoined
import GoSem.ClaimMapViews
import Derived.JoinedTies
import Derived.KernelRfl
namespace Go.Proofs.Ytljipmhkpnigkaa
/- THE CELL 'sum', in the pinned program and in every row, IS THE sha256 OF THE DUMP (.gsa) THAT YtljipmhkpnigkaaProg.lean LOADS. Nothing in Lean hashes anything: it is a label: what it is worth is what the hold of that sum in a sandbox is worth. -/
noncomputable def Try.pinned : Pinned := { name := "ytljipmhkpnigkaa", sum := "cd1a7146ccc4182874b9b5b5ddd25add5a662f6f5c128a03b226f0b3fc6c9242", checked := Try.checked }
namespace Rows
def none {H : Type} : Left H := { results := [], args := [] }

/-- 'fairwaylaw15.SetupsTell': WHATEVER THE INPUT: true; the input reads as it did. -/
def setupsTellSpec : ChangeSpec := { name := "setupsTell", fn := fun _ => fun
  | [d] => { results := [.lit (.bool true)], args := [d] }
  | _ => none }
def setupsTellRow : OpenClaim := { program := "ytljipmhkpnigkaa", sum := "cd1a7146ccc4182874b9b5b5ddd25add5a662f6f5c128a03b226f0b3fc6c9242", func := "fairway/fairwaylaw15.SetupsTell", spec := "setupsTell", unfollowed := true, recurses := true, apart := false }
def SetupsTellSaid : Prop := setupsTellRow.holds Try.pinned (OpenSpec.ofChange setupsTellSpec)

/-- ITS FALSE NEIGHBOUR: 'it returns false'. Refute it at one input. -/
def setupsTellWrong : ChangeSpec := { name := "setupsTell", fn := fun _ => fun
  | [d] => { results := [.lit (.bool false)], args := [d] }
  | _ => none }
def SetupsTellWrongFalsely : Prop := setupsTellRow.holds Try.pinned (OpenSpec.ofChange setupsTellWrong)

/-- 'fairwaylaw15.SetupsFit': WHATEVER THE INPUT: true; the input reads as it did. -/
def setupsFitSpec : ChangeSpec := { name := "setupsFit", fn := fun _ => fun
  | [d] => { results := [.lit (.bool true)], args := [d] }
  | _ => none }
def setupsFitRow : OpenClaim := { program := "ytljipmhkpnigkaa", sum := "cd1a7146ccc4182874b9b5b5ddd25add5a662f6f5c128a03b226f0b3fc6c9242", func := "fairway/fairwaylaw15.SetupsFit", spec := "setupsFit", unfollowed := true, recurses := true, apart := false }
def SetupsFitSaid : Prop := setupsFitRow.holds Try.pinned (OpenSpec.ofChange setupsFitSpec)

/-- ITS FALSE NEIGHBOUR: 'it returns false'. Refute it at one input. -/
def setupsFitWrong : ChangeSpec := { name := "setupsFit", fn := fun _ => fun
  | [d] => { results := [.lit (.bool false)], args := [d] }
  | _ => none }
def SetupsFitWrongFalsely : Prop := setupsFitRow.holds Try.pinned (OpenSpec.ofChange setupsFitWrong)

/-- 'fairwaylaw20.MasterKeeps': WHATEVER THE INPUT: true; the input reads as it did. -/
def masterKeepsSpec : ChangeSpec := { name := "masterKeeps", fn := fun _ => fun
  | [d1, d2, d3] => { results := [.lit (.bool true)], args := [d1, d2, d3] }
  | _ => none }
def masterKeepsRow : OpenClaim := { program := "ytljipmhkpnigkaa", sum := "cd1a7146ccc4182874b9b5b5ddd25add5a662f6f5c128a03b226f0b3fc6c9242", func := "fairway/fairwaylaw20.MasterKeeps", spec := "masterKeeps", unfollowed := true, recurses := true, apart := false }
def MasterKeepsSaid : Prop := masterKeepsRow.holds Try.pinned (OpenSpec.ofChange masterKeepsSpec)

/-- ITS FALSE NEIGHBOUR: 'it returns false'. Refute it at one input. -/
def masterKeepsWrong : ChangeSpec := { name := "masterKeeps", fn := fun _ => fun
  | [d1, d2, d3] => { results := [.lit (.bool false)], args := [d1, d2, d3] }
  | _ => none }
def MasterKeepsWrongFalsely : Prop := masterKeepsRow.holds Try.pinned (OpenSpec.ofChange masterKeepsWrong)

/-- 'fairwaylaw20.MasterRises': WHATEVER THE INPUT: true; the input reads as it did. -/
def masterRisesSpec : ChangeSpec := { name := "masterRises", fn := fun _ => fun
  | [d1, d2, d3] => { results := [.lit (.bool true)], args := [d1, d2, d3] }
  | _ => none }
def masterRisesRow : OpenClaim := { program := "ytljipmhkpnigkaa", sum := "cd1a7146ccc4182874b9b5b5ddd25add5a662f6f5c128a03b226f0b3fc6c9242", func := "fairway/fairwaylaw20.MasterRises", spec := "masterRises", unfollowed := true, recurses := true, apart := false }
def MasterRisesSaid : Prop := masterRisesRow.holds Try.pinned (OpenSpec.ofChange masterRisesSpec)

/-- ITS FALSE NEIGHBOUR: 'it returns false'. Refute it at one input. -/
def masterRisesWrong : ChangeSpec := { name := "masterRises", fn := fun _ => fun
  | [d1, d2, d3] => { results := [.lit (.bool false)], args := [d1, d2, d3] }
  | _ => none }
def MasterRisesWrongFalsely : Prop := masterRisesRow.holds Try.pinned (OpenSpec.ofChange masterRisesWrong)

/-- 'fairwaylaw20.MasterSure': WHATEVER THE INPUT: true; the input reads as it did. -/
def masterSureSpec : ChangeSpec := { name := "masterSure", fn := fun _ => fun
  | [d1, d2] => { results := [.lit (.bool true)], args := [d1, d2] }
  | _ => none }
def masterSureRow : OpenClaim := { program := "ytljipmhkpnigkaa", sum := "cd1a7146ccc4182874b9b5b5ddd25add5a662f6f5c128a03b226f0b3fc6c9242", func := "fairway/fairwaylaw20.MasterSure", spec := "masterSure", unfollowed := true, recurses := true, apart := false }
def MasterSureSaid : Prop := masterSureRow.holds Try.pinned (OpenSpec.ofChange masterSureSpec)

/-- ITS FALSE NEIGHBOUR: 'it returns false'. Refute it at one input. -/
def masterSureWrong : ChangeSpec := { name := "masterSure", fn := fun _ => fun
  | [d1, d2] => { results := [.lit (.bool false)], args := [d1, d2] }
  | _ => none }
def MasterSureWrongFalsely : Prop := masterSureRow.holds Try.pinned (OpenSpec.ofChange masterSureWrong)

/-- 'fairwaylaw20.MasterDrains': WHATEVER THE INPUT: true; the input reads as it did. -/
def masterDrainsSpec : ChangeSpec := { name := "masterDrains", fn := fun _ => fun
  | [d1, d2] => { results := [.lit (.bool true)], args := [d1, d2] }
  | _ => none }
def masterDrainsRow : OpenClaim := { program := "ytljipmhkpnigkaa", sum := "cd1a7146ccc4182874b9b5b5ddd25add5a662f6f5c128a03b226f0b3fc6c9242", func := "fairway/fairwaylaw20.MasterDrains", spec := "masterDrains", unfollowed := true, recurses := true, apart := false }
def MasterDrainsSaid : Prop := masterDrainsRow.holds Try.pinned (OpenSpec.ofChange masterDrainsSpec)

/-- ITS FALSE NEIGHBOUR: 'it returns false'. Refute it at one input. -/
def masterDrainsWrong : ChangeSpec := { name := "masterDrains", fn := fun _ => fun
  | [d1, d2] => { results := [.lit (.bool false)], args := [d1, d2] }
  | _ => none }
def MasterDrainsWrongFalsely : Prop := masterDrainsRow.holds Try.pinned (OpenSpec.ofChange masterDrainsWrong)

/-- 'fairwaylaw21.ClientNone': WHATEVER THE INPUT: true; the input reads as it did. -/
def clientNoneSpec : ChangeSpec := { name := "clientNone", fn := fun _ => fun
  | [d1, d2, d3] => { results := [.lit (.bool true)], args := [d1, d2, d3] }
  | _ => none }
def clientNoneRow : OpenClaim := { program := "ytljipmhkpnigkaa", sum := "cd1a7146ccc4182874b9b5b5ddd25add5a662f6f5c128a03b226f0b3fc6c9242", func := "fairway/fairwaylaw21.ClientNone", spec := "clientNone", inPlace := ["sync/atomic.LoadUint32", "(*internal/sync.Mutex).Lock", "internal/race.Disable", "sync/atomic.CompareAndSwapInt32", "internal/race.Enable", "internal/race.Acquire", "(*internal/sync.Mutex).lockSlow", "internal/sync.runtime_canSpin", "internal/sync.runtime_doSpin", "internal/sync.throw", "internal/sync.runtime_nanotime", "internal/sync.runtime_SemacquireMutex", "sync/atomic.AddInt32", "(*internal/sync.Mutex).Unlock", "internal/race.ReleaseMerge", "(*internal/sync.Mutex).unlockSlow", "internal/sync.fatal", "internal/sync.runtime_Semrelease", "sync/atomic.StoreUint32"], unfollowed := true, recurses := true, apart := false }
def ClientNoneSaid : Prop := clientNoneRow.holds Try.pinned (OpenSpec.ofChange clientNoneSpec)

/-- ITS FALSE NEIGHBOUR: 'it returns false'. Refute it at one input. -/
def clientNoneWrong : ChangeSpec := { name := "clientNone", fn := fun _ => fun
  | [d1, d2, d3] => { results := [.lit (.bool false)], args := [d1, d2, d3] }
  | _ => none }
def ClientNoneWrongFalsely : Prop := clientNoneRow.holds Try.pinned (OpenSpec.ofChange clientNoneWrong)

/-- 'fairwaylaw21.ClientOnce': WHATEVER THE INPUT: true; the input reads as it did. -/
def clientOnceSpec : ChangeSpec := { name := "clientOnce", fn := fun _ => fun
  | [d1, d2, d3] => { results := [.lit (.bool true)], args := [d1, d2, d3] }
  | _ => none }
def clientOnceRow : OpenClaim := { program := "ytljipmhkpnigkaa", sum := "cd1a7146ccc4182874b9b5b5ddd25add5a662f6f5c128a03b226f0b3fc6c9242", func := "fairway/fairwaylaw21.ClientOnce", spec := "clientOnce", inPlace := ["sync/atomic.LoadUint32", "(*internal/sync.Mutex).Lock", "internal/race.Disable", "sync/atomic.CompareAndSwapInt32", "internal/race.Enable", "internal/race.Acquire", "(*internal/sync.Mutex).lockSlow", "internal/sync.runtime_canSpin", "internal/sync.runtime_doSpin", "internal/sync.throw", "internal/sync.runtime_nanotime", "internal/sync.runtime_SemacquireMutex", "sync/atomic.AddInt32", "(*internal/sync.Mutex).Unlock", "internal/race.ReleaseMerge", "(*internal/sync.Mutex).unlockSlow", "internal/sync.fatal", "internal/sync.runtime_Semrelease", "sync/atomic.StoreUint32"], unfollowed := true, recurses := true, apart := false }
def ClientOnceSaid : Prop := clientOnceRow.holds Try.pinned (OpenSpec.ofChange clientOnceSpec)

/-- ITS FALSE NEIGHBOUR: 'it returns false'. Refute it at one input. -/
def clientOnceWrong : ChangeSpec := { name := "clientOnce", fn := fun _ => fun
  | [d1, d2, d3] => { results := [.lit (.bool false)], args := [d1, d2, d3] }
  | _ => none }
def ClientOnceWrongFalsely : Prop := clientOnceRow.holds Try.pinned (OpenSpec.ofChange clientOnceWrong)

/-- 'fairwaylaw21.ClientBudget': WHATEVER THE INPUT: true; the input reads as it did. -/
def clientBudgetSpec : ChangeSpec := { name := "clientBudget", fn := fun _ => fun
  | [d1, d2] => { results := [.lit (.bool true)], args := [d1, d2] }
  | _ => none }
def clientBudgetRow : OpenClaim := { program := "ytljipmhkpnigkaa", sum := "cd1a7146ccc4182874b9b5b5ddd25add5a662f6f5c128a03b226f0b3fc6c9242", func := "fairway/fairwaylaw21.ClientBudget", spec := "clientBudget", inPlace := ["sync/atomic.LoadUint32", "(*internal/sync.Mutex).Lock", "internal/race.Disable", "sync/atomic.CompareAndSwapInt32", "internal/race.Enable", "internal/race.Acquire", "(*internal/sync.Mutex).lockSlow", "internal/sync.runtime_canSpin", "internal/sync.runtime_doSpin", "internal/sync.throw", "internal/sync.runtime_nanotime", "internal/sync.runtime_SemacquireMutex", "sync/atomic.AddInt32", "(*internal/sync.Mutex).Unlock", "internal/race.ReleaseMerge", "(*internal/sync.Mutex).unlockSlow", "internal/sync.fatal", "internal/sync.runtime_Semrelease", "sync/atomic.StoreUint32"], unfollowed := true, recurses := true, apart := false }
def ClientBudgetSaid : Prop := clientBudgetRow.holds Try.pinned (OpenSpec.ofChange clientBudgetSpec)

/-- ITS FALSE NEIGHBOUR: 'it returns false'. Refute it at one input. -/
def clientBudgetWrong : ChangeSpec := { name := "clientBudget", fn := fun _ => fun
  | [d1, d2] => { results := [.lit (.bool false)], args := [d1, d2] }
  | _ => none }
def ClientBudgetWrongFalsely : Prop := clientBudgetRow.holds Try.pinned (OpenSpec.ofChange clientBudgetWrong)

/- THE SECOND FORM. 'bulk': how many values and letters a reading holds, each counted each time it is reached (what is shared counts as often as it is met; a slice's spare places count too). A statement '..UptoSaid' is the law's where the arguments, and the package variables that the reading takes, are together of bulk at most 1048576: NARROWER than '..Said'. Prove '..Said' where nothing that the law and all that it calls make is longer than what came in: it says more and counts as full. Else prove '..UptoSaid'. A law counts once. -/
mutual
def uptoBulk {H : Type} : DataW H → Nat
  | .lit (.string bytes) => bytes.length + 1
  | .lit _ => 1
  | .nil => 1
  | .ptr d => uptoBulk d + 1
  | .slice elems spare => uptoBulkAll elems + uptoBulkAll spare + 1
  | .agg parts => uptoBulkAll parts + 1
  | .iface _ d => uptoBulk d + 1
  | .map entries => uptoBulkEntries entries + 1
  | .held _ => 1
def uptoBulkAll {H : Type} : List (DataW H) → Nat
  | [] => 0
  | d :: r => uptoBulk d + uptoBulkAll r
def uptoBulkEntries {H : Type} : List (Lit × DataW H) → Nat
  | [] => 0
  | x :: r => uptoBulkEntry x + uptoBulkEntries r
def uptoBulkEntry {H : Type} : Lit × DataW H → Nat
  | (.string bytes, d) => bytes.length + uptoBulk d + 1
  | (_, d) => uptoBulk d + 1
 end
def uptoSmall : (H : Type) → List (DataW H) → Bool := fun _ ds => decide (uptoBulkAll ds ≤ 1048576)
def OpenSpec.upto (s : _root_.Go.ChangeSpec) : _root_.Go.OpenSpec := { _root_.Go.OpenSpec.ofChange s with cond := some uptoSmall }

/-- 'fairwaylaw15.SetupsTell', WHERE WHAT IT READS IS OF BULK AT MOST 1048576: true; the input reads as it did. -/
def setupsTellUptoRow : OpenClaim := { program := "ytljipmhkpnigkaa", sum := "cd1a7146ccc4182874b9b5b5ddd25add5a662f6f5c128a03b226f0b3fc6c9242", func := "fairway/fairwaylaw15.SetupsTell", spec := "setupsTell", unfollowed := true, recurses := true, apart := false, narrowed := true }
def SetupsTellUptoSaid : Prop := setupsTellUptoRow.holds Try.pinned (OpenSpec.upto setupsTellSpec)

/-- 'fairwaylaw15.SetupsFit', WHERE WHAT IT READS IS OF BULK AT MOST 1048576: true; the input reads as it did. -/
def setupsFitUptoRow : OpenClaim := { program := "ytljipmhkpnigkaa", sum := "cd1a7146ccc4182874b9b5b5ddd25add5a662f6f5c128a03b226f0b3fc6c9242", func := "fairway/fairwaylaw15.SetupsFit", spec := "setupsFit", unfollowed := true, recurses := true, apart := false, narrowed := true }
def SetupsFitUptoSaid : Prop := setupsFitUptoRow.holds Try.pinned (OpenSpec.upto setupsFitSpec)

/-- 'fairwaylaw20.MasterKeeps', WHERE WHAT IT READS IS OF BULK AT MOST 1048576: true; the input reads as it did. -/
def masterKeepsUptoRow : OpenClaim := { program := "ytljipmhkpnigkaa", sum := "cd1a7146ccc4182874b9b5b5ddd25add5a662f6f5c128a03b226f0b3fc6c9242", func := "fairway/fairwaylaw20.MasterKeeps", spec := "masterKeeps", unfollowed := true, recurses := true, apart := false, narrowed := true }
def MasterKeepsUptoSaid : Prop := masterKeepsUptoRow.holds Try.pinned (OpenSpec.upto masterKeepsSpec)

/-- 'fairwaylaw20.MasterRises', WHERE WHAT IT READS IS OF BULK AT MOST 1048576: true; the input reads as it did. -/
def masterRisesUptoRow : OpenClaim := { program := "ytljipmhkpnigkaa", sum := "cd1a7146ccc4182874b9b5b5ddd25add5a662f6f5c128a03b226f0b3fc6c9242", func := "fairway/fairwaylaw20.MasterRises", spec := "masterRises", unfollowed := true, recurses := true, apart := false, narrowed := true }
def MasterRisesUptoSaid : Prop := masterRisesUptoRow.holds Try.pinned (OpenSpec.upto masterRisesSpec)

/-- 'fairwaylaw20.MasterSure', WHERE WHAT IT READS IS OF BULK AT MOST 1048576: true; the input reads as it did. -/
def masterSureUptoRow : OpenClaim := { program := "ytljipmhkpnigkaa", sum := "cd1a7146ccc4182874b9b5b5ddd25add5a662f6f5c128a03b226f0b3fc6c9242", func := "fairway/fairwaylaw20.MasterSure", spec := "masterSure", unfollowed := true, recurses := true, apart := false, narrowed := true }
def MasterSureUptoSaid : Prop := masterSureUptoRow.holds Try.pinned (OpenSpec.upto masterSureSpec)

/-- 'fairwaylaw20.MasterDrains', WHERE WHAT IT READS IS OF BULK AT MOST 1048576: true; the input reads as it did. -/
def masterDrainsUptoRow : OpenClaim := { program := "ytljipmhkpnigkaa", sum := "cd1a7146ccc4182874b9b5b5ddd25add5a662f6f5c128a03b226f0b3fc6c9242", func := "fairway/fairwaylaw20.MasterDrains", spec := "masterDrains", unfollowed := true, recurses := true, apart := false, narrowed := true }
def MasterDrainsUptoSaid : Prop := masterDrainsUptoRow.holds Try.pinned (OpenSpec.upto masterDrainsSpec)

/-- 'fairwaylaw21.ClientNone', WHERE WHAT IT READS IS OF BULK AT MOST 1048576: true; the input reads as it did. -/
def clientNoneUptoRow : OpenClaim := { program := "ytljipmhkpnigkaa", sum := "cd1a7146ccc4182874b9b5b5ddd25add5a662f6f5c128a03b226f0b3fc6c9242", func := "fairway/fairwaylaw21.ClientNone", spec := "clientNone", inPlace := ["sync/atomic.LoadUint32", "(*internal/sync.Mutex).Lock", "internal/race.Disable", "sync/atomic.CompareAndSwapInt32", "internal/race.Enable", "internal/race.Acquire", "(*internal/sync.Mutex).lockSlow", "internal/sync.runtime_canSpin", "internal/sync.runtime_doSpin", "internal/sync.throw", "internal/sync.runtime_nanotime", "internal/sync.runtime_SemacquireMutex", "sync/atomic.AddInt32", "(*internal/sync.Mutex).Unlock", "internal/race.ReleaseMerge", "(*internal/sync.Mutex).unlockSlow", "internal/sync.fatal", "internal/sync.runtime_Semrelease", "sync/atomic.StoreUint32"], unfollowed := true, recurses := true, apart := false, narrowed := true }
def ClientNoneUptoSaid : Prop := clientNoneUptoRow.holds Try.pinned (OpenSpec.upto clientNoneSpec)

/-- 'fairwaylaw21.ClientOnce', WHERE WHAT IT READS IS OF BULK AT MOST 1048576: true; the input reads as it did. -/
def clientOnceUptoRow : OpenClaim := { program := "ytljipmhkpnigkaa", sum := "cd1a7146ccc4182874b9b5b5ddd25add5a662f6f5c128a03b226f0b3fc6c9242", func := "fairway/fairwaylaw21.ClientOnce", spec := "clientOnce", inPlace := ["sync/atomic.LoadUint32", "(*internal/sync.Mutex).Lock", "internal/race.Disable", "sync/atomic.CompareAndSwapInt32", "internal/race.Enable", "internal/race.Acquire", "(*internal/sync.Mutex).lockSlow", "internal/sync.runtime_canSpin", "internal/sync.runtime_doSpin", "internal/sync.throw", "internal/sync.runtime_nanotime", "internal/sync.runtime_SemacquireMutex", "sync/atomic.AddInt32", "(*internal/sync.Mutex).Unlock", "internal/race.ReleaseMerge", "(*internal/sync.Mutex).unlockSlow", "internal/sync.fatal", "internal/sync.runtime_Semrelease", "sync/atomic.StoreUint32"], unfollowed := true, recurses := true, apart := false, narrowed := true }
def ClientOnceUptoSaid : Prop := clientOnceUptoRow.holds Try.pinned (OpenSpec.upto clientOnceSpec)

/-- 'fairwaylaw21.ClientBudget', WHERE WHAT IT READS IS OF BULK AT MOST 1048576: true; the input reads as it did. -/
def clientBudgetUptoRow : OpenClaim := { program := "ytljipmhkpnigkaa", sum := "cd1a7146ccc4182874b9b5b5ddd25add5a662f6f5c128a03b226f0b3fc6c9242", func := "fairway/fairwaylaw21.ClientBudget", spec := "clientBudget", inPlace := ["sync/atomic.LoadUint32", "(*internal/sync.Mutex).Lock", "internal/race.Disable", "sync/atomic.CompareAndSwapInt32", "internal/race.Enable", "internal/race.Acquire", "(*internal/sync.Mutex).lockSlow", "internal/sync.runtime_canSpin", "internal/sync.runtime_doSpin", "internal/sync.throw", "internal/sync.runtime_nanotime", "internal/sync.runtime_SemacquireMutex", "sync/atomic.AddInt32", "(*internal/sync.Mutex).Unlock", "internal/race.ReleaseMerge", "(*internal/sync.Mutex).unlockSlow", "internal/sync.fatal", "internal/sync.runtime_Semrelease", "sync/atomic.StoreUint32"], unfollowed := true, recurses := true, apart := false, narrowed := true }
def ClientBudgetUptoSaid : Prop := clientBudgetUptoRow.holds Try.pinned (OpenSpec.upto clientBudgetSpec)

end Rows
end Go.Proofs.Ytljipmhkpnigkaa
