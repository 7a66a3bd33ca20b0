/-
  No cell of these rows narrows 'for every input' (looked for: loops, veiled, ifaces, maps, wideKeys, modest, calm, conditions, laid).
  DERIVED. THE GIVEN ROWS OF THIS SEAT. 3 by the template 'for every input the law returns true; each argument reads behind the call as it read before'; 0 by the template 'total and deterministic' (their statements: YtnnoegjgaelafaaTotals.lean).
  GIVEN WITH THE SEED: the statements are not yours to turn. If you find one false, say at which input.
  Laid BY PROGRAM, IN A SANDBOX (cutbox-rows.mjs): the forced cells as the released guide's own fill.sh prints them over the translation 4e9d31a4e3d59fb4… (all of the seat's roots in one cut). By AI agents, Wed Nov 11 2026. No macro, syntax, notation, axiom, sorry.
-/
import Derived.Test.YtnnoegjgaelafaaChecked
import GoSem.Claim
import GoSem.ClaimJoined
import GoSem.ClaimMapViews
import Derived.JoinedTies
import Derived.KernelRfl
namespace Go.Proofs.Ytnnoegjgaelafaa
/- THE CELL 'sum', in the pinned program and in every row, IS THE sha256 OF THE DUMP (.gsa) THAT YtnnoegjgaelafaaProg.lean LOADS. Nothing in Lean hashes anything: it is a label: what it is worth is what the hold of that sum in a sandbox is worth. -/
noncomputable def Try.pinned : Pinned := { name := "ytnnoegjgaelafaa", sum := "4e9d31a4e3d59fb40133b243edf093ef911a584e30d6e16f4a04685219e68ef7", checked := Try.checked }
namespace Rows
def none {H : Type} : Left H := { results := [], args := [] }

/-- 'milllaw5.CollateFields': WHATEVER THE INPUT: true; the input reads as it did. -/
def collateFieldsSpec : ChangeSpec := { name := "collateFields", fn := fun _ => fun
  | [d1, d2] => { results := [.lit (.bool true)], args := [d1, d2] }
  | _ => none }
def collateFieldsRow : OpenClaim := { program := "ytnnoegjgaelafaa", sum := "4e9d31a4e3d59fb40133b243edf093ef911a584e30d6e16f4a04685219e68ef7", func := "mill/milllaw5.CollateFields", spec := "collateFields", inPlace := ["internal/bytealg.IndexByteString"], apart := false }
def CollateFieldsSaid : Prop := collateFieldsRow.holds Try.pinned (OpenSpec.ofChange collateFieldsSpec)

/-- ITS FALSE NEIGHBOUR: 'it returns false'. Refute it at one input. -/
def collateFieldsWrong : ChangeSpec := { name := "collateFields", fn := fun _ => fun
  | [d1, d2] => { results := [.lit (.bool false)], args := [d1, d2] }
  | _ => none }
def CollateFieldsWrongFalsely : Prop := collateFieldsRow.holds Try.pinned (OpenSpec.ofChange collateFieldsWrong)

/-- 'milllaw5.CollateCut': WHATEVER THE INPUT: true; the input reads as it did. -/
def collateCutSpec : ChangeSpec := { name := "collateCut", fn := fun _ => fun
  | [d1, d2] => { results := [.lit (.bool true)], args := [d1, d2] }
  | _ => none }
def collateCutRow : OpenClaim := { program := "ytnnoegjgaelafaa", sum := "4e9d31a4e3d59fb40133b243edf093ef911a584e30d6e16f4a04685219e68ef7", func := "mill/milllaw5.CollateCut", spec := "collateCut", inPlace := ["internal/bytealg.IndexByteString"], apart := false }
def CollateCutSaid : Prop := collateCutRow.holds Try.pinned (OpenSpec.ofChange collateCutSpec)

/-- ITS FALSE NEIGHBOUR: 'it returns false'. Refute it at one input. -/
def collateCutWrong : ChangeSpec := { name := "collateCut", fn := fun _ => fun
  | [d1, d2] => { results := [.lit (.bool false)], args := [d1, d2] }
  | _ => none }
def CollateCutWrongFalsely : Prop := collateCutRow.holds Try.pinned (OpenSpec.ofChange collateCutWrong)

/-- 'milllaw8.RunsNone': WHATEVER THE INPUT: true; the input reads as it did. -/
def runsNoneSpec : ChangeSpec := { name := "runsNone", fn := fun _ => fun
  | [d1, d2, d3, d4] => { results := [.lit (.bool true)], args := [d1, d2, d3, d4] }
  | _ => none }
def runsNoneRow : OpenClaim := { program := "ytnnoegjgaelafaa", sum := "4e9d31a4e3d59fb40133b243edf093ef911a584e30d6e16f4a04685219e68ef7", func := "mill/milllaw8.RunsNone", spec := "runsNone", inPlace := ["internal/bytealg.IndexByteString", "internal/bytealg.abigen_runtime_cmpstring", "(*sync.WaitGroup).Wait", "internal/race.Disable", "sync/atomic.LoadUint64", "internal/race.Enable", "internal/race.Acquire", "internal/synctest.IsAssociated[sync.WaitGroup]", "sync/atomic.CompareAndSwapUint64", "internal/synctest.Disassociate[sync.WaitGroup]", "internal/race.Write", "internal/synctest.IsInBubble", "sync.runtime_SemacquireWaitGroup", "(*sync.WaitGroup).Add", "internal/race.ReleaseMerge", "internal/synctest.Associate[sync.WaitGroup]", "sync.fatal", "sync/atomic.OrUint64", "sync/atomic.AddUint64", "internal/race.Read", "sync/atomic.StoreUint64", "sync.runtime_Semrelease", "(*sync.WaitGroup).Done"], unfollowed := true, recurses := true, leaving := true, apart := false }
def RunsNoneSaid : Prop := runsNoneRow.holds Try.pinned (OpenSpec.ofChange runsNoneSpec)

/-- ITS FALSE NEIGHBOUR: 'it returns false'. Refute it at one input. -/
def runsNoneWrong : ChangeSpec := { name := "runsNone", fn := fun _ => fun
  | [d1, d2, d3, d4] => { results := [.lit (.bool false)], args := [d1, d2, d3, d4] }
  | _ => none }
def RunsNoneWrongFalsely : Prop := runsNoneRow.holds Try.pinned (OpenSpec.ofChange runsNoneWrong)

/- THE SECOND FORM. 'bulk': how many values and letters a reading holds, each counted each time it is reached (what is shared counts as often as it is met; a slice's spare places count too). A statement '..UptoSaid' is the law's where the arguments, and the package variables that the reading takes, are together of bulk at most 1048576: NARROWER than '..Said'. Prove '..Said' where nothing that the law and all that it calls make is longer than what came in: it says more and counts as full. Else prove '..UptoSaid'. A law counts once. -/
mutual
def uptoBulk {H : Type} : DataW H → Nat
  | .lit (.string bytes) => bytes.length + 1
  | .lit _ => 1
  | .nil => 1
  | .ptr d => uptoBulk d + 1
  | .slice elems spare => uptoBulkAll elems + uptoBulkAll spare + 1
  | .agg parts => uptoBulkAll parts + 1
  | .iface _ d => uptoBulk d + 1
  | .map entries => uptoBulkEntries entries + 1
  | .held _ => 1
def uptoBulkAll {H : Type} : List (DataW H) → Nat
  | [] => 0
  | d :: r => uptoBulk d + uptoBulkAll r
def uptoBulkEntries {H : Type} : List (Lit × DataW H) → Nat
  | [] => 0
  | x :: r => uptoBulkEntry x + uptoBulkEntries r
def uptoBulkEntry {H : Type} : Lit × DataW H → Nat
  | (.string bytes, d) => bytes.length + uptoBulk d + 1
  | (_, d) => uptoBulk d + 1
 end
def uptoSmall : (H : Type) → List (DataW H) → Bool := fun _ ds => decide (uptoBulkAll ds ≤ 1048576)
def OpenSpec.upto (s : _root_.Go.ChangeSpec) : _root_.Go.OpenSpec := { _root_.Go.OpenSpec.ofChange s with cond := some uptoSmall }

/-- 'milllaw5.CollateFields', WHERE WHAT IT READS IS OF BULK AT MOST 1048576: true; the input reads as it did. -/
def collateFieldsUptoRow : OpenClaim := { program := "ytnnoegjgaelafaa", sum := "4e9d31a4e3d59fb40133b243edf093ef911a584e30d6e16f4a04685219e68ef7", func := "mill/milllaw5.CollateFields", spec := "collateFields", inPlace := ["internal/bytealg.IndexByteString"], apart := false, narrowed := true }
def CollateFieldsUptoSaid : Prop := collateFieldsUptoRow.holds Try.pinned (OpenSpec.upto collateFieldsSpec)

/-- 'milllaw5.CollateCut', WHERE WHAT IT READS IS OF BULK AT MOST 1048576: true; the input reads as it did. -/
def collateCutUptoRow : OpenClaim := { program := "ytnnoegjgaelafaa", sum := "4e9d31a4e3d59fb40133b243edf093ef911a584e30d6e16f4a04685219e68ef7", func := "mill/milllaw5.CollateCut", spec := "collateCut", inPlace := ["internal/bytealg.IndexByteString"], apart := false, narrowed := true }
def CollateCutUptoSaid : Prop := collateCutUptoRow.holds Try.pinned (OpenSpec.upto collateCutSpec)

/-- 'milllaw8.RunsNone', WHERE WHAT IT READS IS OF BULK AT MOST 1048576: true; the input reads as it did. -/
def runsNoneUptoRow : OpenClaim := { program := "ytnnoegjgaelafaa", sum := "4e9d31a4e3d59fb40133b243edf093ef911a584e30d6e16f4a04685219e68ef7", func := "mill/milllaw8.RunsNone", spec := "runsNone", inPlace := ["internal/bytealg.IndexByteString", "internal/bytealg.abigen_runtime_cmpstring", "(*sync.WaitGroup).Wait", "internal/race.Disable", "sync/atomic.LoadUint64", "internal/race.Enable", "internal/race.Acquire", "internal/synctest.IsAssociated[sync.WaitGroup]", "sync/atomic.CompareAndSwapUint64", "internal/synctest.Disassociate[sync.WaitGroup]", "internal/race.Write", "internal/synctest.IsInBubble", "sync.runtime_SemacquireWaitGroup", "(*sync.WaitGroup).Add", "internal/race.ReleaseMerge", "internal/synctest.Associate[sync.WaitGroup]", "sync.fatal", "sync/atomic.OrUint64", "sync/atomic.AddUint64", "internal/race.Read", "sync/atomic.StoreUint64", "sync.runtime_Semrelease", "(*sync.WaitGroup).Done"], unfollowed := true, recurses := true, leaving := true, apart := false, narrowed := true }
def RunsNoneUptoSaid : Prop := runsNoneUptoRow.holds Try.pinned (OpenSpec.upto runsNoneSpec)

end Rows
end Go.Proofs.Ytnnoegjgaelafaa
