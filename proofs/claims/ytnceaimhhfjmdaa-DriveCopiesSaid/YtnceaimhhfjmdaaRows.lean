/-
  No cell of these rows narrows 'for every input' (looked for: loops, veiled, ifaces, maps, wideKeys, modest, calm, conditions, laid).
  DERIVED. THE GIVEN ROWS OF THIS SEAT. 9 by the template 'for every input the law returns true; each argument reads behind the call as it read before'; 0 by the template 'total and deterministic' (their statements: YtnceaimhhfjmdaaTotals.lean).
  GIVEN WITH THE SEED: the statements are not yours to turn. If you find one false, say at which input.
  Laid BY PROGRAM, IN A SANDBOX (cutbox-rows.mjs): the forced cells as the released guide's own fill.sh prints them over the translation d2128b7ae3efac69… (all of the seat's roots in one cut). By AI agents, Wed Nov 11 2026. No macro, syntax, notation, axiom, sorry.
-/
import Derived.Test.YtnceaimhhfjmdaaChecked
import GoSem.Claim
import GoSem.ClaimJoined
import GoSem.ClaimMapViews
import Derived.JoinedTies
import Derived.KernelRfl
namespace Go.Proofs.Ytnceaimhhfjmdaa
/- THE CELL 'sum', in the pinned program and in every row, IS THE sha256 OF THE DUMP (.gsa) THAT YtnceaimhhfjmdaaProg.lean LOADS. Nothing in Lean hashes anything: it is a label: what it is worth is what the hold of that sum in a sandbox is worth. -/
noncomputable def Try.pinned : Pinned := { name := "ytnceaimhhfjmdaa", sum := "d2128b7ae3efac69560b39a484922de88ac594c7c87718f5bbb604a0d8bd7fc7", checked := Try.checked }
namespace Rows
def none {H : Type} : Left H := { results := [], args := [] }

/-- 'ciboriumlaw09.DriveKeeps': WHATEVER THE INPUT: true; the input reads as it did. -/
def driveKeepsSpec : ChangeSpec := { name := "driveKeeps", fn := fun _ => fun
  | [d1, d2, d3, d4, d5] => { results := [.lit (.bool true)], args := [d1, d2, d3, d4, d5] }
  | _ => none }
def driveKeepsRow : OpenClaim := { program := "ytnceaimhhfjmdaa", sum := "d2128b7ae3efac69560b39a484922de88ac594c7c87718f5bbb604a0d8bd7fc7", func := "ciborium/ciboriumlaw09.DriveKeeps", spec := "driveKeeps", unfollowed := true, recurses := true, apart := false }
def DriveKeepsSaid : Prop := driveKeepsRow.holds Try.pinned (OpenSpec.ofChange driveKeepsSpec)

/-- ITS FALSE NEIGHBOUR: 'it returns false'. Refute it at one input. -/
def driveKeepsWrong : ChangeSpec := { name := "driveKeeps", fn := fun _ => fun
  | [d1, d2, d3, d4, d5] => { results := [.lit (.bool false)], args := [d1, d2, d3, d4, d5] }
  | _ => none }
def DriveKeepsWrongFalsely : Prop := driveKeepsRow.holds Try.pinned (OpenSpec.ofChange driveKeepsWrong)

/-- 'ciboriumlaw09.DriveCrashes': WHATEVER THE INPUT: true; the input reads as it did. -/
def driveCrashesSpec : ChangeSpec := { name := "driveCrashes", fn := fun _ => fun
  | [d1, d2, d3, d4] => { results := [.lit (.bool true)], args := [d1, d2, d3, d4] }
  | _ => none }
def driveCrashesRow : OpenClaim := { program := "ytnceaimhhfjmdaa", sum := "d2128b7ae3efac69560b39a484922de88ac594c7c87718f5bbb604a0d8bd7fc7", func := "ciborium/ciboriumlaw09.DriveCrashes", spec := "driveCrashes", unfollowed := true, recurses := true, apart := false }
def DriveCrashesSaid : Prop := driveCrashesRow.holds Try.pinned (OpenSpec.ofChange driveCrashesSpec)

/-- ITS FALSE NEIGHBOUR: 'it returns false'. Refute it at one input. -/
def driveCrashesWrong : ChangeSpec := { name := "driveCrashes", fn := fun _ => fun
  | [d1, d2, d3, d4] => { results := [.lit (.bool false)], args := [d1, d2, d3, d4] }
  | _ => none }
def DriveCrashesWrongFalsely : Prop := driveCrashesRow.holds Try.pinned (OpenSpec.ofChange driveCrashesWrong)

/-- 'ciboriumlaw22.ChainLooks': WHATEVER THE INPUT: true; the input reads as it did. -/
def chainLooksSpec : ChangeSpec := { name := "chainLooks", fn := fun _ => fun
  | [d1, d2, d3] => { results := [.lit (.bool true)], args := [d1, d2, d3] }
  | _ => none }
def chainLooksRow : OpenClaim := { program := "ytnceaimhhfjmdaa", sum := "d2128b7ae3efac69560b39a484922de88ac594c7c87718f5bbb604a0d8bd7fc7", func := "ciborium/ciboriumlaw22.ChainLooks", spec := "chainLooks", unfollowed := true, recurses := true, apart := false }
def ChainLooksSaid : Prop := chainLooksRow.holds Try.pinned (OpenSpec.ofChange chainLooksSpec)

/-- ITS FALSE NEIGHBOUR: 'it returns false'. Refute it at one input. -/
def chainLooksWrong : ChangeSpec := { name := "chainLooks", fn := fun _ => fun
  | [d1, d2, d3] => { results := [.lit (.bool false)], args := [d1, d2, d3] }
  | _ => none }
def ChainLooksWrongFalsely : Prop := chainLooksRow.holds Try.pinned (OpenSpec.ofChange chainLooksWrong)

/-- 'ciboriumlaw22.ChainPrunes': WHATEVER THE INPUT: true; the input reads as it did. -/
def chainPrunesSpec : ChangeSpec := { name := "chainPrunes", fn := fun _ => fun
  | [d1, d2] => { results := [.lit (.bool true)], args := [d1, d2] }
  | _ => none }
def chainPrunesRow : OpenClaim := { program := "ytnceaimhhfjmdaa", sum := "d2128b7ae3efac69560b39a484922de88ac594c7c87718f5bbb604a0d8bd7fc7", func := "ciborium/ciboriumlaw22.ChainPrunes", spec := "chainPrunes", unfollowed := true, recurses := true, apart := false }
def ChainPrunesSaid : Prop := chainPrunesRow.holds Try.pinned (OpenSpec.ofChange chainPrunesSpec)

/-- ITS FALSE NEIGHBOUR: 'it returns false'. Refute it at one input. -/
def chainPrunesWrong : ChangeSpec := { name := "chainPrunes", fn := fun _ => fun
  | [d1, d2] => { results := [.lit (.bool false)], args := [d1, d2] }
  | _ => none }
def ChainPrunesWrongFalsely : Prop := chainPrunesRow.holds Try.pinned (OpenSpec.ofChange chainPrunesWrong)

/-- 'ciboriumlaw22.ChainSees': WHATEVER THE INPUT: true; the input reads as it did. -/
def chainSeesSpec : ChangeSpec := { name := "chainSees", fn := fun _ => fun
  | [d1, d2, d3] => { results := [.lit (.bool true)], args := [d1, d2, d3] }
  | _ => none }
def chainSeesRow : OpenClaim := { program := "ytnceaimhhfjmdaa", sum := "d2128b7ae3efac69560b39a484922de88ac594c7c87718f5bbb604a0d8bd7fc7", func := "ciborium/ciboriumlaw22.ChainSees", spec := "chainSees", unfollowed := true, recurses := true, apart := false }
def ChainSeesSaid : Prop := chainSeesRow.holds Try.pinned (OpenSpec.ofChange chainSeesSpec)

/-- ITS FALSE NEIGHBOUR: 'it returns false'. Refute it at one input. -/
def chainSeesWrong : ChangeSpec := { name := "chainSees", fn := fun _ => fun
  | [d1, d2, d3] => { results := [.lit (.bool false)], args := [d1, d2, d3] }
  | _ => none }
def ChainSeesWrongFalsely : Prop := chainSeesRow.holds Try.pinned (OpenSpec.ofChange chainSeesWrong)

/-- 'ciboriumlaw22.ChainLeast': WHATEVER THE INPUT: true; the input reads as it did. -/
def chainLeastSpec : ChangeSpec := { name := "chainLeast", fn := fun _ => fun
  | [d1, d2] => { results := [.lit (.bool true)], args := [d1, d2] }
  | _ => none }
def chainLeastRow : OpenClaim := { program := "ytnceaimhhfjmdaa", sum := "d2128b7ae3efac69560b39a484922de88ac594c7c87718f5bbb604a0d8bd7fc7", func := "ciborium/ciboriumlaw22.ChainLeast", spec := "chainLeast", unfollowed := true, recurses := true, apart := false }
def ChainLeastSaid : Prop := chainLeastRow.holds Try.pinned (OpenSpec.ofChange chainLeastSpec)

/-- ITS FALSE NEIGHBOUR: 'it returns false'. Refute it at one input. -/
def chainLeastWrong : ChangeSpec := { name := "chainLeast", fn := fun _ => fun
  | [d1, d2] => { results := [.lit (.bool false)], args := [d1, d2] }
  | _ => none }
def ChainLeastWrongFalsely : Prop := chainLeastRow.holds Try.pinned (OpenSpec.ofChange chainLeastWrong)

/-- 'ciboriumlaw22.ChainGrows': WHATEVER THE INPUT: true; the input reads as it did. -/
def chainGrowsSpec : ChangeSpec := { name := "chainGrows", fn := fun _ => fun
  | [d1, d2, d3] => { results := [.lit (.bool true)], args := [d1, d2, d3] }
  | _ => none }
def chainGrowsRow : OpenClaim := { program := "ytnceaimhhfjmdaa", sum := "d2128b7ae3efac69560b39a484922de88ac594c7c87718f5bbb604a0d8bd7fc7", func := "ciborium/ciboriumlaw22.ChainGrows", spec := "chainGrows", unfollowed := true, recurses := true, apart := false }
def ChainGrowsSaid : Prop := chainGrowsRow.holds Try.pinned (OpenSpec.ofChange chainGrowsSpec)

/-- ITS FALSE NEIGHBOUR: 'it returns false'. Refute it at one input. -/
def chainGrowsWrong : ChangeSpec := { name := "chainGrows", fn := fun _ => fun
  | [d1, d2, d3] => { results := [.lit (.bool false)], args := [d1, d2, d3] }
  | _ => none }
def ChainGrowsWrongFalsely : Prop := chainGrowsRow.holds Try.pinned (OpenSpec.ofChange chainGrowsWrong)

/-- 'ciboriumlaw09.DriveRots': WHATEVER THE INPUT: true; the input reads as it did. -/
def driveRotsSpec : ChangeSpec := { name := "driveRots", fn := fun _ => fun
  | [d1, d2, d3, d4, d5] => { results := [.lit (.bool true)], args := [d1, d2, d3, d4, d5] }
  | _ => none }
def driveRotsRow : OpenClaim := { program := "ytnceaimhhfjmdaa", sum := "d2128b7ae3efac69560b39a484922de88ac594c7c87718f5bbb604a0d8bd7fc7", func := "ciborium/ciboriumlaw09.DriveRots", spec := "driveRots", unfollowed := true, recurses := true, apart := false }
def DriveRotsSaid : Prop := driveRotsRow.holds Try.pinned (OpenSpec.ofChange driveRotsSpec)

/-- ITS FALSE NEIGHBOUR: 'it returns false'. Refute it at one input. -/
def driveRotsWrong : ChangeSpec := { name := "driveRots", fn := fun _ => fun
  | [d1, d2, d3, d4, d5] => { results := [.lit (.bool false)], args := [d1, d2, d3, d4, d5] }
  | _ => none }
def DriveRotsWrongFalsely : Prop := driveRotsRow.holds Try.pinned (OpenSpec.ofChange driveRotsWrong)

/-- 'ciboriumlaw09.DriveCopies': WHATEVER THE INPUT: true; the input reads as it did. -/
def driveCopiesSpec : ChangeSpec := { name := "driveCopies", fn := fun _ => fun
  | [d1, d2, d3] => { results := [.lit (.bool true)], args := [d1, d2, d3] }
  | _ => none }
def driveCopiesRow : OpenClaim := { program := "ytnceaimhhfjmdaa", sum := "d2128b7ae3efac69560b39a484922de88ac594c7c87718f5bbb604a0d8bd7fc7", func := "ciborium/ciboriumlaw09.DriveCopies", spec := "driveCopies", unfollowed := true, recurses := true, apart := false }
def DriveCopiesSaid : Prop := driveCopiesRow.holds Try.pinned (OpenSpec.ofChange driveCopiesSpec)

/-- ITS FALSE NEIGHBOUR: 'it returns false'. Refute it at one input. -/
def driveCopiesWrong : ChangeSpec := { name := "driveCopies", fn := fun _ => fun
  | [d1, d2, d3] => { results := [.lit (.bool false)], args := [d1, d2, d3] }
  | _ => none }
def DriveCopiesWrongFalsely : Prop := driveCopiesRow.holds Try.pinned (OpenSpec.ofChange driveCopiesWrong)

/- THE SECOND FORM. 'bulk': how many values and letters a reading holds, each counted each time it is reached (what is shared counts as often as it is met; a slice's spare places count too). A statement '..UptoSaid' is the law's where the arguments, and the package variables that the reading takes, are together of bulk at most 1048576: NARROWER than '..Said'. Prove '..Said' where nothing that the law and all that it calls make is longer than what came in: it says more and counts as full. Else prove '..UptoSaid'. A law counts once. -/
mutual
def uptoBulk {H : Type} : DataW H → Nat
  | .lit (.string bytes) => bytes.length + 1
  | .lit _ => 1
  | .nil => 1
  | .ptr d => uptoBulk d + 1
  | .slice elems spare => uptoBulkAll elems + uptoBulkAll spare + 1
  | .agg parts => uptoBulkAll parts + 1
  | .iface _ d => uptoBulk d + 1
  | .map entries => uptoBulkEntries entries + 1
  | .held _ => 1
def uptoBulkAll {H : Type} : List (DataW H) → Nat
  | [] => 0
  | d :: r => uptoBulk d + uptoBulkAll r
def uptoBulkEntries {H : Type} : List (Lit × DataW H) → Nat
  | [] => 0
  | x :: r => uptoBulkEntry x + uptoBulkEntries r
def uptoBulkEntry {H : Type} : Lit × DataW H → Nat
  | (.string bytes, d) => bytes.length + uptoBulk d + 1
  | (_, d) => uptoBulk d + 1
 end
def uptoSmall : (H : Type) → List (DataW H) → Bool := fun _ ds => decide (uptoBulkAll ds ≤ 1048576)
def OpenSpec.upto (s : _root_.Go.ChangeSpec) : _root_.Go.OpenSpec := { _root_.Go.OpenSpec.ofChange s with cond := some uptoSmall }

/-- 'ciboriumlaw09.DriveKeeps', WHERE WHAT IT READS IS OF BULK AT MOST 1048576: true; the input reads as it did. -/
def driveKeepsUptoRow : OpenClaim := { program := "ytnceaimhhfjmdaa", sum := "d2128b7ae3efac69560b39a484922de88ac594c7c87718f5bbb604a0d8bd7fc7", func := "ciborium/ciboriumlaw09.DriveKeeps", spec := "driveKeeps", unfollowed := true, recurses := true, apart := false, narrowed := true }
def DriveKeepsUptoSaid : Prop := driveKeepsUptoRow.holds Try.pinned (OpenSpec.upto driveKeepsSpec)

/-- 'ciboriumlaw09.DriveCrashes', WHERE WHAT IT READS IS OF BULK AT MOST 1048576: true; the input reads as it did. -/
def driveCrashesUptoRow : OpenClaim := { program := "ytnceaimhhfjmdaa", sum := "d2128b7ae3efac69560b39a484922de88ac594c7c87718f5bbb604a0d8bd7fc7", func := "ciborium/ciboriumlaw09.DriveCrashes", spec := "driveCrashes", unfollowed := true, recurses := true, apart := false, narrowed := true }
def DriveCrashesUptoSaid : Prop := driveCrashesUptoRow.holds Try.pinned (OpenSpec.upto driveCrashesSpec)

/-- 'ciboriumlaw22.ChainLooks', WHERE WHAT IT READS IS OF BULK AT MOST 1048576: true; the input reads as it did. -/
def chainLooksUptoRow : OpenClaim := { program := "ytnceaimhhfjmdaa", sum := "d2128b7ae3efac69560b39a484922de88ac594c7c87718f5bbb604a0d8bd7fc7", func := "ciborium/ciboriumlaw22.ChainLooks", spec := "chainLooks", unfollowed := true, recurses := true, apart := false, narrowed := true }
def ChainLooksUptoSaid : Prop := chainLooksUptoRow.holds Try.pinned (OpenSpec.upto chainLooksSpec)

/-- 'ciboriumlaw22.ChainPrunes', WHERE WHAT IT READS IS OF BULK AT MOST 1048576: true; the input reads as it did. -/
def chainPrunesUptoRow : OpenClaim := { program := "ytnceaimhhfjmdaa", sum := "d2128b7ae3efac69560b39a484922de88ac594c7c87718f5bbb604a0d8bd7fc7", func := "ciborium/ciboriumlaw22.ChainPrunes", spec := "chainPrunes", unfollowed := true, recurses := true, apart := false, narrowed := true }
def ChainPrunesUptoSaid : Prop := chainPrunesUptoRow.holds Try.pinned (OpenSpec.upto chainPrunesSpec)

/-- 'ciboriumlaw22.ChainSees', WHERE WHAT IT READS IS OF BULK AT MOST 1048576: true; the input reads as it did. -/
def chainSeesUptoRow : OpenClaim := { program := "ytnceaimhhfjmdaa", sum := "d2128b7ae3efac69560b39a484922de88ac594c7c87718f5bbb604a0d8bd7fc7", func := "ciborium/ciboriumlaw22.ChainSees", spec := "chainSees", unfollowed := true, recurses := true, apart := false, narrowed := true }
def ChainSeesUptoSaid : Prop := chainSeesUptoRow.holds Try.pinned (OpenSpec.upto chainSeesSpec)

/-- 'ciboriumlaw22.ChainLeast', WHERE WHAT IT READS IS OF BULK AT MOST 1048576: true; the input reads as it did. -/
def chainLeastUptoRow : OpenClaim := { program := "ytnceaimhhfjmdaa", sum := "d2128b7ae3efac69560b39a484922de88ac594c7c87718f5bbb604a0d8bd7fc7", func := "ciborium/ciboriumlaw22.ChainLeast", spec := "chainLeast", unfollowed := true, recurses := true, apart := false, narrowed := true }
def ChainLeastUptoSaid : Prop := chainLeastUptoRow.holds Try.pinned (OpenSpec.upto chainLeastSpec)

/-- 'ciboriumlaw22.ChainGrows', WHERE WHAT IT READS IS OF BULK AT MOST 1048576: true; the input reads as it did. -/
def chainGrowsUptoRow : OpenClaim := { program := "ytnceaimhhfjmdaa", sum := "d2128b7ae3efac69560b39a484922de88ac594c7c87718f5bbb604a0d8bd7fc7", func := "ciborium/ciboriumlaw22.ChainGrows", spec := "chainGrows", unfollowed := true, recurses := true, apart := false, narrowed := true }
def ChainGrowsUptoSaid : Prop := chainGrowsUptoRow.holds Try.pinned (OpenSpec.upto chainGrowsSpec)

/-- 'ciboriumlaw09.DriveRots', WHERE WHAT IT READS IS OF BULK AT MOST 1048576: true; the input reads as it did. -/
def driveRotsUptoRow : OpenClaim := { program := "ytnceaimhhfjmdaa", sum := "d2128b7ae3efac69560b39a484922de88ac594c7c87718f5bbb604a0d8bd7fc7", func := "ciborium/ciboriumlaw09.DriveRots", spec := "driveRots", unfollowed := true, recurses := true, apart := false, narrowed := true }
def DriveRotsUptoSaid : Prop := driveRotsUptoRow.holds Try.pinned (OpenSpec.upto driveRotsSpec)

/-- 'ciboriumlaw09.DriveCopies', WHERE WHAT IT READS IS OF BULK AT MOST 1048576: true; the input reads as it did. -/
def driveCopiesUptoRow : OpenClaim := { program := "ytnceaimhhfjmdaa", sum := "d2128b7ae3efac69560b39a484922de88ac594c7c87718f5bbb604a0d8bd7fc7", func := "ciborium/ciboriumlaw09.DriveCopies", spec := "driveCopies", unfollowed := true, recurses := true, apart := false, narrowed := true }
def DriveCopiesUptoSaid : Prop := driveCopiesUptoRow.holds Try.pinned (OpenSpec.upto driveCopiesSpec)

end Rows
end Go.Proofs.Ytnceaimhhfjmdaa
