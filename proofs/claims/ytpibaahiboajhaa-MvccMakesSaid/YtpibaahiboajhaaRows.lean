/-
  No cell of these rows narrows 'for every input' (looked for: loops, veiled, ifaces, maps, wideKeys, modest, calm, conditions, laid).
  DERIVED. THE GIVEN ROWS OF THIS SEAT. 11 by the template 'for every input the law returns true; each argument reads behind the call as it read before'; 0 by the template 'total and deterministic' (their statements: YtpibaahiboajhaaTotals.lean).
  GIVEN WITH THE SEED: the statements are not yours to turn. If you find one false, say at which input.
  Laid BY PROGRAM, IN A SANDBOX (cutbox-rows.mjs): the forced cells as the released guide's own fill.sh prints them over the translation 1b6aedf59fcfd187… (all of the seat's roots in one cut). By AI agents, Wed Nov 11 2026. No macro, syntax, notation, axiom, sorry.
-/
import Derived.Test.YtpibaahiboajhaaChecked
import GoSem.Claim
import GoSem.ClaimJoined
import GoSem.ClaimMapViews
import Derived.JoinedTies
import Derived.KernelRfl
namespace Go.Proofs.Ytpibaahiboajhaa
/- THE CELL 'sum', in the pinned program and in every row, IS THE sha256 OF THE DUMP (.gsa) THAT YtpibaahiboajhaaProg.lean LOADS. Nothing in Lean hashes anything: it is a label: what it is worth is what the hold of that sum in a sandbox is worth. -/
noncomputable def Try.pinned : Pinned := { name := "ytpibaahiboajhaa", sum := "1b6aedf59fcfd187324b415824c24a7dbe73abc7dfda4ac4730455bd2fc478d4", checked := Try.checked }
namespace Rows
def none {H : Type} : Left H := { results := [], args := [] }

/-- 'ciboriumlaw23.OraclePlays': WHATEVER THE INPUT: true; the input reads as it did. -/
def oraclePlaysSpec : ChangeSpec := { name := "oraclePlays", fn := fun _ => fun
  | [d1, d2, d3] => { results := [.lit (.bool true)], args := [d1, d2, d3] }
  | _ => none }
def oraclePlaysRow : OpenClaim := { program := "ytpibaahiboajhaa", sum := "1b6aedf59fcfd187324b415824c24a7dbe73abc7dfda4ac4730455bd2fc478d4", func := "ciborium/ciboriumlaw23.OraclePlays", spec := "oraclePlays", inPlace := ["sync/atomic.StoreUint64", "sync/atomic.LoadUint64"], unfollowed := true, recurses := true, apart := false }
def OraclePlaysSaid : Prop := oraclePlaysRow.holds Try.pinned (OpenSpec.ofChange oraclePlaysSpec)

/-- ITS FALSE NEIGHBOUR: 'it returns false'. Refute it at one input. -/
def oraclePlaysWrong : ChangeSpec := { name := "oraclePlays", fn := fun _ => fun
  | [d1, d2, d3] => { results := [.lit (.bool false)], args := [d1, d2, d3] }
  | _ => none }
def OraclePlaysWrongFalsely : Prop := oraclePlaysRow.holds Try.pinned (OpenSpec.ofChange oraclePlaysWrong)

/-- 'ciboriumlaw23.OracleRises': WHATEVER THE INPUT: true; the input reads as it did. -/
def oracleRisesSpec : ChangeSpec := { name := "oracleRises", fn := fun _ => fun
  | [d1, d2, d3] => { results := [.lit (.bool true)], args := [d1, d2, d3] }
  | _ => none }
def oracleRisesRow : OpenClaim := { program := "ytpibaahiboajhaa", sum := "1b6aedf59fcfd187324b415824c24a7dbe73abc7dfda4ac4730455bd2fc478d4", func := "ciborium/ciboriumlaw23.OracleRises", spec := "oracleRises", inPlace := ["sync/atomic.StoreUint64", "sync/atomic.LoadUint64"], unfollowed := true, recurses := true, apart := false }
def OracleRisesSaid : Prop := oracleRisesRow.holds Try.pinned (OpenSpec.ofChange oracleRisesSpec)

/-- ITS FALSE NEIGHBOUR: 'it returns false'. Refute it at one input. -/
def oracleRisesWrong : ChangeSpec := { name := "oracleRises", fn := fun _ => fun
  | [d1, d2, d3] => { results := [.lit (.bool false)], args := [d1, d2, d3] }
  | _ => none }
def OracleRisesWrongFalsely : Prop := oracleRisesRow.holds Try.pinned (OpenSpec.ofChange oracleRisesWrong)

/-- 'ciboriumlaw23.OracleEnds': WHATEVER THE INPUT: true; the input reads as it did. -/
def oracleEndsSpec : ChangeSpec := { name := "oracleEnds", fn := fun _ => fun
  | [d1, d2, d3] => { results := [.lit (.bool true)], args := [d1, d2, d3] }
  | _ => none }
def oracleEndsRow : OpenClaim := { program := "ytpibaahiboajhaa", sum := "1b6aedf59fcfd187324b415824c24a7dbe73abc7dfda4ac4730455bd2fc478d4", func := "ciborium/ciboriumlaw23.OracleEnds", spec := "oracleEnds", inPlace := ["sync/atomic.StoreUint64", "sync/atomic.LoadUint64"], unfollowed := true, recurses := true, apart := false }
def OracleEndsSaid : Prop := oracleEndsRow.holds Try.pinned (OpenSpec.ofChange oracleEndsSpec)

/-- ITS FALSE NEIGHBOUR: 'it returns false'. Refute it at one input. -/
def oracleEndsWrong : ChangeSpec := { name := "oracleEnds", fn := fun _ => fun
  | [d1, d2, d3] => { results := [.lit (.bool false)], args := [d1, d2, d3] }
  | _ => none }
def OracleEndsWrongFalsely : Prop := oracleEndsRow.holds Try.pinned (OpenSpec.ofChange oracleEndsWrong)

/-- 'ciboriumlaw23.OracleNil': WHATEVER THE INPUT: true; the input reads as it did. -/
def oracleNilSpec : ChangeSpec := { name := "oracleNil", fn := fun _ => fun
  | [d] => { results := [.lit (.bool true)], args := [d] }
  | _ => none }
def oracleNilRow : OpenClaim := { program := "ytpibaahiboajhaa", sum := "1b6aedf59fcfd187324b415824c24a7dbe73abc7dfda4ac4730455bd2fc478d4", func := "ciborium/ciboriumlaw23.OracleNil", spec := "oracleNil", inPlace := ["sync/atomic.LoadUint64", "sync/atomic.StoreUint64"], unfollowed := true, recurses := true, apart := false }
def OracleNilSaid : Prop := oracleNilRow.holds Try.pinned (OpenSpec.ofChange oracleNilSpec)

/-- ITS FALSE NEIGHBOUR: 'it returns false'. Refute it at one input. -/
def oracleNilWrong : ChangeSpec := { name := "oracleNil", fn := fun _ => fun
  | [d] => { results := [.lit (.bool false)], args := [d] }
  | _ => none }
def OracleNilWrongFalsely : Prop := oracleNilRow.holds Try.pinned (OpenSpec.ofChange oracleNilWrong)

/-- 'ciboriumlaw24.MvccScans': WHATEVER THE INPUT: true; the input reads as it did. -/
def mvccScansSpec : ChangeSpec := { name := "mvccScans", fn := fun _ => fun
  | [d1, d2, d3, d4] => { results := [.lit (.bool true)], args := [d1, d2, d3, d4] }
  | _ => none }
def mvccScansRow : OpenClaim := { program := "ytpibaahiboajhaa", sum := "1b6aedf59fcfd187324b415824c24a7dbe73abc7dfda4ac4730455bd2fc478d4", func := "ciborium/ciboriumlaw24.MvccScans", spec := "mvccScans", inPlace := ["slices.overlaps[ciborium/tree.Entry[[]ciborium/api.Version]]", "slices.overlaps[*ciborium/tree.node[[]ciborium/api.Version]]"], unfollowed := true, recurses := true, apart := false }
def MvccScansSaid : Prop := mvccScansRow.holds Try.pinned (OpenSpec.ofChange mvccScansSpec)

/-- ITS FALSE NEIGHBOUR: 'it returns false'. Refute it at one input. -/
def mvccScansWrong : ChangeSpec := { name := "mvccScans", fn := fun _ => fun
  | [d1, d2, d3, d4] => { results := [.lit (.bool false)], args := [d1, d2, d3, d4] }
  | _ => none }
def MvccScansWrongFalsely : Prop := mvccScansRow.holds Try.pinned (OpenSpec.ofChange mvccScansWrong)

/-- 'ciboriumlaw24.MvccMakes': WHATEVER THE INPUT: true; the input reads as it did. -/
def mvccMakesSpec : ChangeSpec := { name := "mvccMakes", fn := fun _ => fun
  | [d1, d2] => { results := [.lit (.bool true)], args := [d1, d2] }
  | _ => none }
def mvccMakesRow : OpenClaim := { program := "ytpibaahiboajhaa", sum := "1b6aedf59fcfd187324b415824c24a7dbe73abc7dfda4ac4730455bd2fc478d4", func := "ciborium/ciboriumlaw24.MvccMakes", spec := "mvccMakes", inPlace := ["slices.overlaps[ciborium/tree.Entry[[]ciborium/api.Version]]", "slices.overlaps[*ciborium/tree.node[[]ciborium/api.Version]]"], unfollowed := true, recurses := true, apart := false }
def MvccMakesSaid : Prop := mvccMakesRow.holds Try.pinned (OpenSpec.ofChange mvccMakesSpec)

/-- ITS FALSE NEIGHBOUR: 'it returns false'. Refute it at one input. -/
def mvccMakesWrong : ChangeSpec := { name := "mvccMakes", fn := fun _ => fun
  | [d1, d2] => { results := [.lit (.bool false)], args := [d1, d2] }
  | _ => none }
def MvccMakesWrongFalsely : Prop := mvccMakesRow.holds Try.pinned (OpenSpec.ofChange mvccMakesWrong)

/-- 'ciboriumlaw26.BufferPlays': WHATEVER THE INPUT: true; the input reads as it did. -/
def bufferPlaysSpec : ChangeSpec := { name := "bufferPlays", fn := fun _ => fun
  | [d] => { results := [.lit (.bool true)], args := [d] }
  | _ => none }
def bufferPlaysRow : OpenClaim := { program := "ytpibaahiboajhaa", sum := "1b6aedf59fcfd187324b415824c24a7dbe73abc7dfda4ac4730455bd2fc478d4", func := "ciborium/ciboriumlaw26.BufferPlays", spec := "bufferPlays", unfollowed := true, recurses := true, apart := false }
def BufferPlaysSaid : Prop := bufferPlaysRow.holds Try.pinned (OpenSpec.ofChange bufferPlaysSpec)

/-- ITS FALSE NEIGHBOUR: 'it returns false'. Refute it at one input. -/
def bufferPlaysWrong : ChangeSpec := { name := "bufferPlays", fn := fun _ => fun
  | [d] => { results := [.lit (.bool false)], args := [d] }
  | _ => none }
def BufferPlaysWrongFalsely : Prop := bufferPlaysRow.holds Try.pinned (OpenSpec.ofChange bufferPlaysWrong)

/-- 'ciboriumlaw26.BufferOvers': WHATEVER THE INPUT: true; the input reads as it did. -/
def bufferOversSpec : ChangeSpec := { name := "bufferOvers", fn := fun _ => fun
  | [d1, d2, d3, d4] => { results := [.lit (.bool true)], args := [d1, d2, d3, d4] }
  | _ => none }
def bufferOversRow : OpenClaim := { program := "ytpibaahiboajhaa", sum := "1b6aedf59fcfd187324b415824c24a7dbe73abc7dfda4ac4730455bd2fc478d4", func := "ciborium/ciboriumlaw26.BufferOvers", spec := "bufferOvers", unfollowed := true, recurses := true, apart := false }
def BufferOversSaid : Prop := bufferOversRow.holds Try.pinned (OpenSpec.ofChange bufferOversSpec)

/-- ITS FALSE NEIGHBOUR: 'it returns false'. Refute it at one input. -/
def bufferOversWrong : ChangeSpec := { name := "bufferOvers", fn := fun _ => fun
  | [d1, d2, d3, d4] => { results := [.lit (.bool false)], args := [d1, d2, d3, d4] }
  | _ => none }
def BufferOversWrongFalsely : Prop := bufferOversRow.holds Try.pinned (OpenSpec.ofChange bufferOversWrong)

/-- 'ciboriumlaw26.BufferSees': WHATEVER THE INPUT: true; the input reads as it did. -/
def bufferSeesSpec : ChangeSpec := { name := "bufferSees", fn := fun _ => fun
  | [d1, d2, d3, d4] => { results := [.lit (.bool true)], args := [d1, d2, d3, d4] }
  | _ => none }
def bufferSeesRow : OpenClaim := { program := "ytpibaahiboajhaa", sum := "1b6aedf59fcfd187324b415824c24a7dbe73abc7dfda4ac4730455bd2fc478d4", func := "ciborium/ciboriumlaw26.BufferSees", spec := "bufferSees", unfollowed := true, recurses := true, apart := false }
def BufferSeesSaid : Prop := bufferSeesRow.holds Try.pinned (OpenSpec.ofChange bufferSeesSpec)

/-- ITS FALSE NEIGHBOUR: 'it returns false'. Refute it at one input. -/
def bufferSeesWrong : ChangeSpec := { name := "bufferSees", fn := fun _ => fun
  | [d1, d2, d3, d4] => { results := [.lit (.bool false)], args := [d1, d2, d3, d4] }
  | _ => none }
def BufferSeesWrongFalsely : Prop := bufferSeesRow.holds Try.pinned (OpenSpec.ofChange bufferSeesWrong)

/-- 'ciboriumlaw26.BufferLimits': WHATEVER THE INPUT: true; the input reads as it did. -/
def bufferLimitsSpec : ChangeSpec := { name := "bufferLimits", fn := fun _ => fun
  | [d1, d2, d3] => { results := [.lit (.bool true)], args := [d1, d2, d3] }
  | _ => none }
def bufferLimitsRow : OpenClaim := { program := "ytpibaahiboajhaa", sum := "1b6aedf59fcfd187324b415824c24a7dbe73abc7dfda4ac4730455bd2fc478d4", func := "ciborium/ciboriumlaw26.BufferLimits", spec := "bufferLimits", unfollowed := true, recurses := true, apart := false }
def BufferLimitsSaid : Prop := bufferLimitsRow.holds Try.pinned (OpenSpec.ofChange bufferLimitsSpec)

/-- ITS FALSE NEIGHBOUR: 'it returns false'. Refute it at one input. -/
def bufferLimitsWrong : ChangeSpec := { name := "bufferLimits", fn := fun _ => fun
  | [d1, d2, d3] => { results := [.lit (.bool false)], args := [d1, d2, d3] }
  | _ => none }
def BufferLimitsWrongFalsely : Prop := bufferLimitsRow.holds Try.pinned (OpenSpec.ofChange bufferLimitsWrong)

/-- 'ciboriumlaw26.BufferNil': WHATEVER THE INPUT: true; the input reads as it did. -/
def bufferNilSpec : ChangeSpec := { name := "bufferNil", fn := fun _ => fun
  | [d1, d2, d3] => { results := [.lit (.bool true)], args := [d1, d2, d3] }
  | _ => none }
def bufferNilRow : OpenClaim := { program := "ytpibaahiboajhaa", sum := "1b6aedf59fcfd187324b415824c24a7dbe73abc7dfda4ac4730455bd2fc478d4", func := "ciborium/ciboriumlaw26.BufferNil", spec := "bufferNil", unfollowed := true, recurses := true, apart := false }
def BufferNilSaid : Prop := bufferNilRow.holds Try.pinned (OpenSpec.ofChange bufferNilSpec)

/-- ITS FALSE NEIGHBOUR: 'it returns false'. Refute it at one input. -/
def bufferNilWrong : ChangeSpec := { name := "bufferNil", fn := fun _ => fun
  | [d1, d2, d3] => { results := [.lit (.bool false)], args := [d1, d2, d3] }
  | _ => none }
def BufferNilWrongFalsely : Prop := bufferNilRow.holds Try.pinned (OpenSpec.ofChange bufferNilWrong)

/- THE SECOND FORM. 'bulk': how many values and letters a reading holds, each counted each time it is reached (what is shared counts as often as it is met; a slice's spare places count too). A statement '..UptoSaid' is the law's where the arguments, and the package variables that the reading takes, are together of bulk at most 1048576: NARROWER than '..Said'. Prove '..Said' where nothing that the law and all that it calls make is longer than what came in: it says more and counts as full. Else prove '..UptoSaid'. A law counts once. -/
mutual
def uptoBulk {H : Type} : DataW H → Nat
  | .lit (.string bytes) => bytes.length + 1
  | .lit _ => 1
  | .nil => 1
  | .ptr d => uptoBulk d + 1
  | .slice elems spare => uptoBulkAll elems + uptoBulkAll spare + 1
  | .agg parts => uptoBulkAll parts + 1
  | .iface _ d => uptoBulk d + 1
  | .map entries => uptoBulkEntries entries + 1
  | .held _ => 1
def uptoBulkAll {H : Type} : List (DataW H) → Nat
  | [] => 0
  | d :: r => uptoBulk d + uptoBulkAll r
def uptoBulkEntries {H : Type} : List (Lit × DataW H) → Nat
  | [] => 0
  | x :: r => uptoBulkEntry x + uptoBulkEntries r
def uptoBulkEntry {H : Type} : Lit × DataW H → Nat
  | (.string bytes, d) => bytes.length + uptoBulk d + 1
  | (_, d) => uptoBulk d + 1
 end
def uptoSmall : (H : Type) → List (DataW H) → Bool := fun _ ds => decide (uptoBulkAll ds ≤ 1048576)
def OpenSpec.upto (s : _root_.Go.ChangeSpec) : _root_.Go.OpenSpec := { _root_.Go.OpenSpec.ofChange s with cond := some uptoSmall }

/-- 'ciboriumlaw23.OraclePlays', WHERE WHAT IT READS IS OF BULK AT MOST 1048576: true; the input reads as it did. -/
def oraclePlaysUptoRow : OpenClaim := { program := "ytpibaahiboajhaa", sum := "1b6aedf59fcfd187324b415824c24a7dbe73abc7dfda4ac4730455bd2fc478d4", func := "ciborium/ciboriumlaw23.OraclePlays", spec := "oraclePlays", inPlace := ["sync/atomic.StoreUint64", "sync/atomic.LoadUint64"], unfollowed := true, recurses := true, apart := false, narrowed := true }
def OraclePlaysUptoSaid : Prop := oraclePlaysUptoRow.holds Try.pinned (OpenSpec.upto oraclePlaysSpec)

/-- 'ciboriumlaw23.OracleRises', WHERE WHAT IT READS IS OF BULK AT MOST 1048576: true; the input reads as it did. -/
def oracleRisesUptoRow : OpenClaim := { program := "ytpibaahiboajhaa", sum := "1b6aedf59fcfd187324b415824c24a7dbe73abc7dfda4ac4730455bd2fc478d4", func := "ciborium/ciboriumlaw23.OracleRises", spec := "oracleRises", inPlace := ["sync/atomic.StoreUint64", "sync/atomic.LoadUint64"], unfollowed := true, recurses := true, apart := false, narrowed := true }
def OracleRisesUptoSaid : Prop := oracleRisesUptoRow.holds Try.pinned (OpenSpec.upto oracleRisesSpec)

/-- 'ciboriumlaw23.OracleEnds', WHERE WHAT IT READS IS OF BULK AT MOST 1048576: true; the input reads as it did. -/
def oracleEndsUptoRow : OpenClaim := { program := "ytpibaahiboajhaa", sum := "1b6aedf59fcfd187324b415824c24a7dbe73abc7dfda4ac4730455bd2fc478d4", func := "ciborium/ciboriumlaw23.OracleEnds", spec := "oracleEnds", inPlace := ["sync/atomic.StoreUint64", "sync/atomic.LoadUint64"], unfollowed := true, recurses := true, apart := false, narrowed := true }
def OracleEndsUptoSaid : Prop := oracleEndsUptoRow.holds Try.pinned (OpenSpec.upto oracleEndsSpec)

/-- 'ciboriumlaw23.OracleNil', WHERE WHAT IT READS IS OF BULK AT MOST 1048576: true; the input reads as it did. -/
def oracleNilUptoRow : OpenClaim := { program := "ytpibaahiboajhaa", sum := "1b6aedf59fcfd187324b415824c24a7dbe73abc7dfda4ac4730455bd2fc478d4", func := "ciborium/ciboriumlaw23.OracleNil", spec := "oracleNil", inPlace := ["sync/atomic.LoadUint64", "sync/atomic.StoreUint64"], unfollowed := true, recurses := true, apart := false, narrowed := true }
def OracleNilUptoSaid : Prop := oracleNilUptoRow.holds Try.pinned (OpenSpec.upto oracleNilSpec)

/-- 'ciboriumlaw24.MvccScans', WHERE WHAT IT READS IS OF BULK AT MOST 1048576: true; the input reads as it did. -/
def mvccScansUptoRow : OpenClaim := { program := "ytpibaahiboajhaa", sum := "1b6aedf59fcfd187324b415824c24a7dbe73abc7dfda4ac4730455bd2fc478d4", func := "ciborium/ciboriumlaw24.MvccScans", spec := "mvccScans", inPlace := ["slices.overlaps[ciborium/tree.Entry[[]ciborium/api.Version]]", "slices.overlaps[*ciborium/tree.node[[]ciborium/api.Version]]"], unfollowed := true, recurses := true, apart := false, narrowed := true }
def MvccScansUptoSaid : Prop := mvccScansUptoRow.holds Try.pinned (OpenSpec.upto mvccScansSpec)

/-- 'ciboriumlaw24.MvccMakes', WHERE WHAT IT READS IS OF BULK AT MOST 1048576: true; the input reads as it did. -/
def mvccMakesUptoRow : OpenClaim := { program := "ytpibaahiboajhaa", sum := "1b6aedf59fcfd187324b415824c24a7dbe73abc7dfda4ac4730455bd2fc478d4", func := "ciborium/ciboriumlaw24.MvccMakes", spec := "mvccMakes", inPlace := ["slices.overlaps[ciborium/tree.Entry[[]ciborium/api.Version]]", "slices.overlaps[*ciborium/tree.node[[]ciborium/api.Version]]"], unfollowed := true, recurses := true, apart := false, narrowed := true }
def MvccMakesUptoSaid : Prop := mvccMakesUptoRow.holds Try.pinned (OpenSpec.upto mvccMakesSpec)

/-- 'ciboriumlaw26.BufferPlays', WHERE WHAT IT READS IS OF BULK AT MOST 1048576: true; the input reads as it did. -/
def bufferPlaysUptoRow : OpenClaim := { program := "ytpibaahiboajhaa", sum := "1b6aedf59fcfd187324b415824c24a7dbe73abc7dfda4ac4730455bd2fc478d4", func := "ciborium/ciboriumlaw26.BufferPlays", spec := "bufferPlays", unfollowed := true, recurses := true, apart := false, narrowed := true }
def BufferPlaysUptoSaid : Prop := bufferPlaysUptoRow.holds Try.pinned (OpenSpec.upto bufferPlaysSpec)

/-- 'ciboriumlaw26.BufferOvers', WHERE WHAT IT READS IS OF BULK AT MOST 1048576: true; the input reads as it did. -/
def bufferOversUptoRow : OpenClaim := { program := "ytpibaahiboajhaa", sum := "1b6aedf59fcfd187324b415824c24a7dbe73abc7dfda4ac4730455bd2fc478d4", func := "ciborium/ciboriumlaw26.BufferOvers", spec := "bufferOvers", unfollowed := true, recurses := true, apart := false, narrowed := true }
def BufferOversUptoSaid : Prop := bufferOversUptoRow.holds Try.pinned (OpenSpec.upto bufferOversSpec)

/-- 'ciboriumlaw26.BufferSees', WHERE WHAT IT READS IS OF BULK AT MOST 1048576: true; the input reads as it did. -/
def bufferSeesUptoRow : OpenClaim := { program := "ytpibaahiboajhaa", sum := "1b6aedf59fcfd187324b415824c24a7dbe73abc7dfda4ac4730455bd2fc478d4", func := "ciborium/ciboriumlaw26.BufferSees", spec := "bufferSees", unfollowed := true, recurses := true, apart := false, narrowed := true }
def BufferSeesUptoSaid : Prop := bufferSeesUptoRow.holds Try.pinned (OpenSpec.upto bufferSeesSpec)

/-- 'ciboriumlaw26.BufferLimits', WHERE WHAT IT READS IS OF BULK AT MOST 1048576: true; the input reads as it did. -/
def bufferLimitsUptoRow : OpenClaim := { program := "ytpibaahiboajhaa", sum := "1b6aedf59fcfd187324b415824c24a7dbe73abc7dfda4ac4730455bd2fc478d4", func := "ciborium/ciboriumlaw26.BufferLimits", spec := "bufferLimits", unfollowed := true, recurses := true, apart := false, narrowed := true }
def BufferLimitsUptoSaid : Prop := bufferLimitsUptoRow.holds Try.pinned (OpenSpec.upto bufferLimitsSpec)

/-- 'ciboriumlaw26.BufferNil', WHERE WHAT IT READS IS OF BULK AT MOST 1048576: true; the input reads as it did. -/
def bufferNilUptoRow : OpenClaim := { program := "ytpibaahiboajhaa", sum := "1b6aedf59fcfd187324b415824c24a7dbe73abc7dfda4ac4730455bd2fc478d4", func := "ciborium/ciboriumlaw26.BufferNil", spec := "bufferNil", unfollowed := true, recurses := true, apart := false, narrowed := true }
def BufferNilUptoSaid : Prop := bufferNilUptoRow.holds Try.pinned (OpenSpec.upto bufferNilSpec)

end Rows
end Go.Proofs.Ytpibaahiboajhaa
