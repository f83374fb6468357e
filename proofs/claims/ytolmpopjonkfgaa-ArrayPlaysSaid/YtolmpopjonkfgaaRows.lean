/-
  No cell of these rows narrows 'for every input' (looked for: loops, veiled, ifaces, maps, wideKeys, modest, calm, conditions, laid).
  DERIVED. THE GIVEN ROWS OF THIS SEAT. 7 by the template 'for every input the law returns true; each argument reads behind the call as it read before'; 0 by the template 'total and deterministic' (their statements: YtolmpopjonkfgaaTotals.lean).
  GIVEN WITH THE SEED: the statements are not yours to turn. If you find one false, say at which input.
  Laid BY PROGRAM, IN A SANDBOX (cutbox-rows.mjs): the forced cells as the released guide's own fill.sh prints them over the translation f894618ccd089c61… (all of the seat's roots in one cut). By AI agents, Wed Nov 11 2026. No macro, syntax, notation, axiom, sorry.
-/
import Derived.Test.YtolmpopjonkfgaaChecked
import GoSem.Claim
import GoSem.ClaimJoined
import GoSem.ClaimMapViews
import Derived.JoinedTies
import Derived.KernelRfl
namespace Go.Proofs.Ytolmpopjonkfgaa
/- THE CELL 'sum', in the pinned program and in every row, IS THE sha256 OF THE DUMP (.gsa) THAT YtolmpopjonkfgaaProg.lean LOADS. Nothing in Lean hashes anything: it is a label: what it is worth is what the hold of that sum in a sandbox is worth. -/
noncomputable def Try.pinned : Pinned := { name := "ytolmpopjonkfgaa", sum := "f894618ccd089c6165d7bc084a87cff2ec1baa54c0b99893545665fb99ca51dc", checked := Try.checked }
namespace Rows
def none {H : Type} : Left H := { results := [], args := [] }

/-- 'ciboriumlaw09.DriveKeeps': WHATEVER THE INPUT: true; the input reads as it did. -/
def driveKeepsSpec : ChangeSpec := { name := "driveKeeps", fn := fun _ => fun
  | [d1, d2, d3, d4, d5] => { results := [.lit (.bool true)], args := [d1, d2, d3, d4, d5] }
  | _ => none }
def driveKeepsRow : OpenClaim := { program := "ytolmpopjonkfgaa", sum := "f894618ccd089c6165d7bc084a87cff2ec1baa54c0b99893545665fb99ca51dc", func := "ciborium/ciboriumlaw09.DriveKeeps", spec := "driveKeeps", unfollowed := true, recurses := true, apart := false }
def DriveKeepsSaid : Prop := driveKeepsRow.holds Try.pinned (OpenSpec.ofChange driveKeepsSpec)

/-- ITS FALSE NEIGHBOUR: 'it returns false'. Refute it at one input. -/
def driveKeepsWrong : ChangeSpec := { name := "driveKeeps", fn := fun _ => fun
  | [d1, d2, d3, d4, d5] => { results := [.lit (.bool false)], args := [d1, d2, d3, d4, d5] }
  | _ => none }
def DriveKeepsWrongFalsely : Prop := driveKeepsRow.holds Try.pinned (OpenSpec.ofChange driveKeepsWrong)

/-- 'ciboriumlaw09.DriveCrashes': WHATEVER THE INPUT: true; the input reads as it did. -/
def driveCrashesSpec : ChangeSpec := { name := "driveCrashes", fn := fun _ => fun
  | [d1, d2, d3, d4] => { results := [.lit (.bool true)], args := [d1, d2, d3, d4] }
  | _ => none }
def driveCrashesRow : OpenClaim := { program := "ytolmpopjonkfgaa", sum := "f894618ccd089c6165d7bc084a87cff2ec1baa54c0b99893545665fb99ca51dc", func := "ciborium/ciboriumlaw09.DriveCrashes", spec := "driveCrashes", unfollowed := true, recurses := true, apart := false }
def DriveCrashesSaid : Prop := driveCrashesRow.holds Try.pinned (OpenSpec.ofChange driveCrashesSpec)

/-- ITS FALSE NEIGHBOUR: 'it returns false'. Refute it at one input. -/
def driveCrashesWrong : ChangeSpec := { name := "driveCrashes", fn := fun _ => fun
  | [d1, d2, d3, d4] => { results := [.lit (.bool false)], args := [d1, d2, d3, d4] }
  | _ => none }
def DriveCrashesWrongFalsely : Prop := driveCrashesRow.holds Try.pinned (OpenSpec.ofChange driveCrashesWrong)

/-- 'ciboriumlaw09.DriveRots': WHATEVER THE INPUT: true; the input reads as it did. -/
def driveRotsSpec : ChangeSpec := { name := "driveRots", fn := fun _ => fun
  | [d1, d2, d3, d4, d5] => { results := [.lit (.bool true)], args := [d1, d2, d3, d4, d5] }
  | _ => none }
def driveRotsRow : OpenClaim := { program := "ytolmpopjonkfgaa", sum := "f894618ccd089c6165d7bc084a87cff2ec1baa54c0b99893545665fb99ca51dc", func := "ciborium/ciboriumlaw09.DriveRots", spec := "driveRots", unfollowed := true, recurses := true, apart := false }
def DriveRotsSaid : Prop := driveRotsRow.holds Try.pinned (OpenSpec.ofChange driveRotsSpec)

/-- ITS FALSE NEIGHBOUR: 'it returns false'. Refute it at one input. -/
def driveRotsWrong : ChangeSpec := { name := "driveRots", fn := fun _ => fun
  | [d1, d2, d3, d4, d5] => { results := [.lit (.bool false)], args := [d1, d2, d3, d4, d5] }
  | _ => none }
def DriveRotsWrongFalsely : Prop := driveRotsRow.holds Try.pinned (OpenSpec.ofChange driveRotsWrong)

/-- 'ciboriumlaw09.DriveCopies': WHATEVER THE INPUT: true; the input reads as it did. -/
def driveCopiesSpec : ChangeSpec := { name := "driveCopies", fn := fun _ => fun
  | [d1, d2, d3] => { results := [.lit (.bool true)], args := [d1, d2, d3] }
  | _ => none }
def driveCopiesRow : OpenClaim := { program := "ytolmpopjonkfgaa", sum := "f894618ccd089c6165d7bc084a87cff2ec1baa54c0b99893545665fb99ca51dc", func := "ciborium/ciboriumlaw09.DriveCopies", spec := "driveCopies", unfollowed := true, recurses := true, apart := false }
def DriveCopiesSaid : Prop := driveCopiesRow.holds Try.pinned (OpenSpec.ofChange driveCopiesSpec)

/-- ITS FALSE NEIGHBOUR: 'it returns false'. Refute it at one input. -/
def driveCopiesWrong : ChangeSpec := { name := "driveCopies", fn := fun _ => fun
  | [d1, d2, d3] => { results := [.lit (.bool false)], args := [d1, d2, d3] }
  | _ => none }
def DriveCopiesWrongFalsely : Prop := driveCopiesRow.holds Try.pinned (OpenSpec.ofChange driveCopiesWrong)

/-- 'ciboriumlaw10.ArrayRows': WHATEVER THE INPUT: true; the input reads as it did. -/
def arrayRowsSpec : ChangeSpec := { name := "arrayRows", fn := fun _ => fun
  | [d1, d2, d3, d4, d5] => { results := [.lit (.bool true)], args := [d1, d2, d3, d4, d5] }
  | _ => none }
def arrayRowsRow : OpenClaim := { program := "ytolmpopjonkfgaa", sum := "f894618ccd089c6165d7bc084a87cff2ec1baa54c0b99893545665fb99ca51dc", func := "ciborium/ciboriumlaw10.ArrayRows", spec := "arrayRows", unfollowed := true, recurses := true, apart := false }
def ArrayRowsSaid : Prop := arrayRowsRow.holds Try.pinned (OpenSpec.ofChange arrayRowsSpec)

/-- ITS FALSE NEIGHBOUR: 'it returns false'. Refute it at one input. -/
def arrayRowsWrong : ChangeSpec := { name := "arrayRows", fn := fun _ => fun
  | [d1, d2, d3, d4, d5] => { results := [.lit (.bool false)], args := [d1, d2, d3, d4, d5] }
  | _ => none }
def ArrayRowsWrongFalsely : Prop := arrayRowsRow.holds Try.pinned (OpenSpec.ofChange arrayRowsWrong)

/-- 'ciboriumlaw10.ArrayApart': WHATEVER THE INPUT: true; the input reads as it did. -/
def arrayApartSpec : ChangeSpec := { name := "arrayApart", fn := fun _ => fun
  | [d1, d2, d3, d4] => { results := [.lit (.bool true)], args := [d1, d2, d3, d4] }
  | _ => none }
def arrayApartRow : OpenClaim := { program := "ytolmpopjonkfgaa", sum := "f894618ccd089c6165d7bc084a87cff2ec1baa54c0b99893545665fb99ca51dc", func := "ciborium/ciboriumlaw10.ArrayApart", spec := "arrayApart", unfollowed := true, recurses := true, apart := false }
def ArrayApartSaid : Prop := arrayApartRow.holds Try.pinned (OpenSpec.ofChange arrayApartSpec)

/-- ITS FALSE NEIGHBOUR: 'it returns false'. Refute it at one input. -/
def arrayApartWrong : ChangeSpec := { name := "arrayApart", fn := fun _ => fun
  | [d1, d2, d3, d4] => { results := [.lit (.bool false)], args := [d1, d2, d3, d4] }
  | _ => none }
def ArrayApartWrongFalsely : Prop := arrayApartRow.holds Try.pinned (OpenSpec.ofChange arrayApartWrong)

/-- 'ciboriumlaw10.ArrayPlays': WHATEVER THE INPUT: true; the input reads as it did. -/
def arrayPlaysSpec : ChangeSpec := { name := "arrayPlays", fn := fun _ => fun
  | [d1, d2, d3] => { results := [.lit (.bool true)], args := [d1, d2, d3] }
  | _ => none }
def arrayPlaysRow : OpenClaim := { program := "ytolmpopjonkfgaa", sum := "f894618ccd089c6165d7bc084a87cff2ec1baa54c0b99893545665fb99ca51dc", func := "ciborium/ciboriumlaw10.ArrayPlays", spec := "arrayPlays", unfollowed := true, recurses := true, apart := false }
def ArrayPlaysSaid : Prop := arrayPlaysRow.holds Try.pinned (OpenSpec.ofChange arrayPlaysSpec)

/-- ITS FALSE NEIGHBOUR: 'it returns false'. Refute it at one input. -/
def arrayPlaysWrong : ChangeSpec := { name := "arrayPlays", fn := fun _ => fun
  | [d1, d2, d3] => { results := [.lit (.bool false)], args := [d1, d2, d3] }
  | _ => none }
def ArrayPlaysWrongFalsely : Prop := arrayPlaysRow.holds Try.pinned (OpenSpec.ofChange arrayPlaysWrong)

/- THE SECOND FORM. 'bulk': how many values and letters a reading holds, each counted each time it is reached (what is shared counts as often as it is met; a slice's spare places count too). A statement '..UptoSaid' is the law's where the arguments, and the package variables that the reading takes, are together of bulk at most 1048576: NARROWER than '..Said'. Prove '..Said' where nothing that the law and all that it calls make is longer than what came in: it says more and counts as full. Else prove '..UptoSaid'. A law counts once. -/
mutual
def uptoBulk {H : Type} : DataW H → Nat
  | .lit (.string bytes) => bytes.length + 1
  | .lit _ => 1
  | .nil => 1
  | .ptr d => uptoBulk d + 1
  | .slice elems spare => uptoBulkAll elems + uptoBulkAll spare + 1
  | .agg parts => uptoBulkAll parts + 1
  | .iface _ d => uptoBulk d + 1
  | .map entries => uptoBulkEntries entries + 1
  | .held _ => 1
def uptoBulkAll {H : Type} : List (DataW H) → Nat
  | [] => 0
  | d :: r => uptoBulk d + uptoBulkAll r
def uptoBulkEntries {H : Type} : List (Lit × DataW H) → Nat
  | [] => 0
  | x :: r => uptoBulkEntry x + uptoBulkEntries r
def uptoBulkEntry {H : Type} : Lit × DataW H → Nat
  | (.string bytes, d) => bytes.length + uptoBulk d + 1
  | (_, d) => uptoBulk d + 1
 end
def uptoSmall : (H : Type) → List (DataW H) → Bool := fun _ ds => decide (uptoBulkAll ds ≤ 1048576)
def OpenSpec.upto (s : _root_.Go.ChangeSpec) : _root_.Go.OpenSpec := { _root_.Go.OpenSpec.ofChange s with cond := some uptoSmall }

/-- 'ciboriumlaw09.DriveKeeps', WHERE WHAT IT READS IS OF BULK AT MOST 1048576: true; the input reads as it did. -/
def driveKeepsUptoRow : OpenClaim := { program := "ytolmpopjonkfgaa", sum := "f894618ccd089c6165d7bc084a87cff2ec1baa54c0b99893545665fb99ca51dc", func := "ciborium/ciboriumlaw09.DriveKeeps", spec := "driveKeeps", unfollowed := true, recurses := true, apart := false, narrowed := true }
def DriveKeepsUptoSaid : Prop := driveKeepsUptoRow.holds Try.pinned (OpenSpec.upto driveKeepsSpec)

/-- 'ciboriumlaw09.DriveCrashes', WHERE WHAT IT READS IS OF BULK AT MOST 1048576: true; the input reads as it did. -/
def driveCrashesUptoRow : OpenClaim := { program := "ytolmpopjonkfgaa", sum := "f894618ccd089c6165d7bc084a87cff2ec1baa54c0b99893545665fb99ca51dc", func := "ciborium/ciboriumlaw09.DriveCrashes", spec := "driveCrashes", unfollowed := true, recurses := true, apart := false, narrowed := true }
def DriveCrashesUptoSaid : Prop := driveCrashesUptoRow.holds Try.pinned (OpenSpec.upto driveCrashesSpec)

/-- 'ciboriumlaw09.DriveRots', WHERE WHAT IT READS IS OF BULK AT MOST 1048576: true; the input reads as it did. -/
def driveRotsUptoRow : OpenClaim := { program := "ytolmpopjonkfgaa", sum := "f894618ccd089c6165d7bc084a87cff2ec1baa54c0b99893545665fb99ca51dc", func := "ciborium/ciboriumlaw09.DriveRots", spec := "driveRots", unfollowed := true, recurses := true, apart := false, narrowed := true }
def DriveRotsUptoSaid : Prop := driveRotsUptoRow.holds Try.pinned (OpenSpec.upto driveRotsSpec)

/-- 'ciboriumlaw09.DriveCopies', WHERE WHAT IT READS IS OF BULK AT MOST 1048576: true; the input reads as it did. -/
def driveCopiesUptoRow : OpenClaim := { program := "ytolmpopjonkfgaa", sum := "f894618ccd089c6165d7bc084a87cff2ec1baa54c0b99893545665fb99ca51dc", func := "ciborium/ciboriumlaw09.DriveCopies", spec := "driveCopies", unfollowed := true, recurses := true, apart := false, narrowed := true }
def DriveCopiesUptoSaid : Prop := driveCopiesUptoRow.holds Try.pinned (OpenSpec.upto driveCopiesSpec)

/-- 'ciboriumlaw10.ArrayRows', WHERE WHAT IT READS IS OF BULK AT MOST 1048576: true; the input reads as it did. -/
def arrayRowsUptoRow : OpenClaim := { program := "ytolmpopjonkfgaa", sum := "f894618ccd089c6165d7bc084a87cff2ec1baa54c0b99893545665fb99ca51dc", func := "ciborium/ciboriumlaw10.ArrayRows", spec := "arrayRows", unfollowed := true, recurses := true, apart := false, narrowed := true }
def ArrayRowsUptoSaid : Prop := arrayRowsUptoRow.holds Try.pinned (OpenSpec.upto arrayRowsSpec)

/-- 'ciboriumlaw10.ArrayApart', WHERE WHAT IT READS IS OF BULK AT MOST 1048576: true; the input reads as it did. -/
def arrayApartUptoRow : OpenClaim := { program := "ytolmpopjonkfgaa", sum := "f894618ccd089c6165d7bc084a87cff2ec1baa54c0b99893545665fb99ca51dc", func := "ciborium/ciboriumlaw10.ArrayApart", spec := "arrayApart", unfollowed := true, recurses := true, apart := false, narrowed := true }
def ArrayApartUptoSaid : Prop := arrayApartUptoRow.holds Try.pinned (OpenSpec.upto arrayApartSpec)

/-- 'ciboriumlaw10.ArrayPlays', WHERE WHAT IT READS IS OF BULK AT MOST 1048576: true; the input reads as it did. -/
def arrayPlaysUptoRow : OpenClaim := { program := "ytolmpopjonkfgaa", sum := "f894618ccd089c6165d7bc084a87cff2ec1baa54c0b99893545665fb99ca51dc", func := "ciborium/ciboriumlaw10.ArrayPlays", spec := "arrayPlays", unfollowed := true, recurses := true, apart := false, narrowed := true }
def ArrayPlaysUptoSaid : Prop := arrayPlaysUptoRow.holds Try.pinned (OpenSpec.upto arrayPlaysSpec)

end Rows
end Go.Proofs.Ytolmpopjonkfgaa
