/-
  No cell of these rows narrows 'for every input' (looked for: loops, veiled, ifaces, maps, wideKeys, modest, calm, conditions, laid).
  DERIVED. THE GIVEN ROWS OF THIS SEAT. 8 by the template 'for every input the law returns true; each argument reads behind the call as it read before'; 0 by the template 'total and deterministic' (their statements: YtihnlhfngmbglaaGreatTotals.lean).
  GIVEN WITH THE SEED: the statements are not yours to turn. If you find one false, say at which input.
  Laid BY PROGRAM, IN A SANDBOX (cutbox-rows.mjs): the forced cells as the released guide's own fill.sh prints them over the translation bb0d31053966cd7d… (all of the seat's roots in one cut). By AI agents, Wed Nov 11 2026. No macro, syntax, notation, axiom, sorry.
-/
import Derived.Test.YtihnlhfngmbglaaGreatChecked
import GoSem.Claim
import GoSem.ClaimJoined
import GoSem.ClaimMapViews
import Derived.JoinedTies
import Derived.KernelRfl
namespace Go.Proofs.YtihnlhfngmbglaaGreat
/- THE CELL 'sum', in the pinned program and in every row, IS THE sha256 OF THE DUMP (.gsa) THAT YtihnlhfngmbglaaGreatProg.lean LOADS. Nothing in Lean hashes anything: it is a label: what it is worth is what the hold of that sum in a sandbox is worth. -/
noncomputable def Tryz.pinned : Pinned := { name := "ytihnlhfngmbglaagreat", sum := "bb0d31053966cd7d7fe1a49c66aa673304e0ebf3e8e93e72265191fa26d4ab55", checked := Tryz.checked }
namespace Rows
def none {H : Type} : Left H := { results := [], args := [] }

/-- 'ciboriumlaw30.LedgerSpares': WHATEVER THE INPUT: true; the input reads as it did. -/
def ledgerSparesSpec : ChangeSpec := { name := "ledgerSpares", fn := fun _ => fun
  | [d1, d2, d3, d4] => { results := [.lit (.bool true)], args := [d1, d2, d3, d4] }
  | _ => none }
def ledgerSparesRow : OpenClaim := { program := "ytihnlhfngmbglaagreat", sum := "bb0d31053966cd7d7fe1a49c66aa673304e0ebf3e8e93e72265191fa26d4ab55", func := "ciborium/ciboriumlaw30.LedgerSpares", spec := "ledgerSpares", inPlace := ["sync/atomic.LoadUint32", "(*internal/sync.Mutex).Lock", "internal/race.Disable", "sync/atomic.CompareAndSwapInt32", "internal/race.Enable", "internal/race.Acquire", "(*internal/sync.Mutex).lockSlow", "internal/sync.runtime_canSpin", "internal/sync.runtime_doSpin", "internal/sync.throw", "internal/sync.runtime_nanotime", "internal/sync.runtime_SemacquireMutex", "sync/atomic.AddInt32", "(*internal/sync.Mutex).Unlock", "internal/race.ReleaseMerge", "(*internal/sync.Mutex).unlockSlow", "internal/sync.fatal", "internal/sync.runtime_Semrelease", "sync/atomic.StoreUint32"], unfollowed := true, recurses := true, apart := false }
def LedgerSparesSaid : Prop := ledgerSparesRow.holds Tryz.pinned (OpenSpec.ofChange ledgerSparesSpec)

/-- ITS FALSE NEIGHBOUR: 'it returns false'. Refute it at one input. -/
def ledgerSparesWrong : ChangeSpec := { name := "ledgerSpares", fn := fun _ => fun
  | [d1, d2, d3, d4] => { results := [.lit (.bool false)], args := [d1, d2, d3, d4] }
  | _ => none }
def LedgerSparesWrongFalsely : Prop := ledgerSparesRow.holds Tryz.pinned (OpenSpec.ofChange ledgerSparesWrong)

/-- 'ciboriumlaw30.LedgerTells': WHATEVER THE INPUT: true; the input reads as it did. -/
def ledgerTellsSpec : ChangeSpec := { name := "ledgerTells", fn := fun _ => fun
  | [d1, d2, d3, d4] => { results := [.lit (.bool true)], args := [d1, d2, d3, d4] }
  | _ => none }
def ledgerTellsRow : OpenClaim := { program := "ytihnlhfngmbglaagreat", sum := "bb0d31053966cd7d7fe1a49c66aa673304e0ebf3e8e93e72265191fa26d4ab55", func := "ciborium/ciboriumlaw30.LedgerTells", spec := "ledgerTells", inPlace := ["sync/atomic.LoadUint32", "(*internal/sync.Mutex).Lock", "internal/race.Disable", "sync/atomic.CompareAndSwapInt32", "internal/race.Enable", "internal/race.Acquire", "(*internal/sync.Mutex).lockSlow", "internal/sync.runtime_canSpin", "internal/sync.runtime_doSpin", "internal/sync.throw", "internal/sync.runtime_nanotime", "internal/sync.runtime_SemacquireMutex", "sync/atomic.AddInt32", "(*internal/sync.Mutex).Unlock", "internal/race.ReleaseMerge", "(*internal/sync.Mutex).unlockSlow", "internal/sync.fatal", "internal/sync.runtime_Semrelease", "sync/atomic.StoreUint32"], unfollowed := true, recurses := true, apart := false }
def LedgerTellsSaid : Prop := ledgerTellsRow.holds Tryz.pinned (OpenSpec.ofChange ledgerTellsSpec)

/-- ITS FALSE NEIGHBOUR: 'it returns false'. Refute it at one input. -/
def ledgerTellsWrong : ChangeSpec := { name := "ledgerTells", fn := fun _ => fun
  | [d1, d2, d3, d4] => { results := [.lit (.bool false)], args := [d1, d2, d3, d4] }
  | _ => none }
def LedgerTellsWrongFalsely : Prop := ledgerTellsRow.holds Tryz.pinned (OpenSpec.ofChange ledgerTellsWrong)

/-- 'ciboriumlaw30.LedgerRises': WHATEVER THE INPUT: true; the input reads as it did. -/
def ledgerRisesSpec : ChangeSpec := { name := "ledgerRises", fn := fun _ => fun
  | [d1, d2, d3, d4, d5, d6] => { results := [.lit (.bool true)], args := [d1, d2, d3, d4, d5, d6] }
  | _ => none }
def ledgerRisesRow : OpenClaim := { program := "ytihnlhfngmbglaagreat", sum := "bb0d31053966cd7d7fe1a49c66aa673304e0ebf3e8e93e72265191fa26d4ab55", func := "ciborium/ciboriumlaw30.LedgerRises", spec := "ledgerRises", inPlace := ["sync/atomic.LoadUint32", "(*internal/sync.Mutex).Lock", "internal/race.Disable", "sync/atomic.CompareAndSwapInt32", "internal/race.Enable", "internal/race.Acquire", "(*internal/sync.Mutex).lockSlow", "internal/sync.runtime_canSpin", "internal/sync.runtime_doSpin", "internal/sync.throw", "internal/sync.runtime_nanotime", "internal/sync.runtime_SemacquireMutex", "sync/atomic.AddInt32", "(*internal/sync.Mutex).Unlock", "internal/race.ReleaseMerge", "(*internal/sync.Mutex).unlockSlow", "internal/sync.fatal", "internal/sync.runtime_Semrelease", "sync/atomic.StoreUint32"], unfollowed := true, recurses := true, apart := false }
def LedgerRisesSaid : Prop := ledgerRisesRow.holds Tryz.pinned (OpenSpec.ofChange ledgerRisesSpec)

/-- ITS FALSE NEIGHBOUR: 'it returns false'. Refute it at one input. -/
def ledgerRisesWrong : ChangeSpec := { name := "ledgerRises", fn := fun _ => fun
  | [d1, d2, d3, d4, d5, d6] => { results := [.lit (.bool false)], args := [d1, d2, d3, d4, d5, d6] }
  | _ => none }
def LedgerRisesWrongFalsely : Prop := ledgerRisesRow.holds Tryz.pinned (OpenSpec.ofChange ledgerRisesWrong)

/-- 'ciboriumlaw31.ScrubTurns': WHATEVER THE INPUT: true; the input reads as it did. -/
def scrubTurnsSpec : ChangeSpec := { name := "scrubTurns", fn := fun _ => fun
  | [d1, d2, d3, d4] => { results := [.lit (.bool true)], args := [d1, d2, d3, d4] }
  | _ => none }
def scrubTurnsRow : OpenClaim := { program := "ytihnlhfngmbglaagreat", sum := "bb0d31053966cd7d7fe1a49c66aa673304e0ebf3e8e93e72265191fa26d4ab55", func := "ciborium/ciboriumlaw31.ScrubTurns", spec := "scrubTurns", inPlace := ["sync/atomic.LoadUint32", "(*internal/sync.Mutex).Lock", "internal/race.Disable", "sync/atomic.CompareAndSwapInt32", "internal/race.Enable", "internal/race.Acquire", "(*internal/sync.Mutex).lockSlow", "internal/sync.runtime_canSpin", "internal/sync.runtime_doSpin", "internal/sync.throw", "internal/sync.runtime_nanotime", "internal/sync.runtime_SemacquireMutex", "sync/atomic.AddInt32", "(*internal/sync.Mutex).Unlock", "internal/race.ReleaseMerge", "(*internal/sync.Mutex).unlockSlow", "internal/sync.fatal", "internal/sync.runtime_Semrelease", "sync/atomic.StoreUint32"], unfollowed := true, recurses := true, apart := false }
def ScrubTurnsSaid : Prop := scrubTurnsRow.holds Tryz.pinned (OpenSpec.ofChange scrubTurnsSpec)

/-- ITS FALSE NEIGHBOUR: 'it returns false'. Refute it at one input. -/
def scrubTurnsWrong : ChangeSpec := { name := "scrubTurns", fn := fun _ => fun
  | [d1, d2, d3, d4] => { results := [.lit (.bool false)], args := [d1, d2, d3, d4] }
  | _ => none }
def ScrubTurnsWrongFalsely : Prop := scrubTurnsRow.holds Tryz.pinned (OpenSpec.ofChange scrubTurnsWrong)

/-- 'ciboriumlaw30.LedgerGets': WHATEVER THE INPUT: true; the input reads as it did. -/
def ledgerGetsSpec : ChangeSpec := { name := "ledgerGets", fn := fun _ => fun
  | [d1, d2, d3, d4] => { results := [.lit (.bool true)], args := [d1, d2, d3, d4] }
  | _ => none }
def ledgerGetsRow : OpenClaim := { program := "ytihnlhfngmbglaagreat", sum := "bb0d31053966cd7d7fe1a49c66aa673304e0ebf3e8e93e72265191fa26d4ab55", func := "ciborium/ciboriumlaw30.LedgerGets", spec := "ledgerGets", inPlace := ["sync/atomic.LoadUint32", "(*internal/sync.Mutex).Lock", "internal/race.Disable", "sync/atomic.CompareAndSwapInt32", "internal/race.Enable", "internal/race.Acquire", "(*internal/sync.Mutex).lockSlow", "internal/sync.runtime_canSpin", "internal/sync.runtime_doSpin", "internal/sync.throw", "internal/sync.runtime_nanotime", "internal/sync.runtime_SemacquireMutex", "sync/atomic.AddInt32", "(*internal/sync.Mutex).Unlock", "internal/race.ReleaseMerge", "(*internal/sync.Mutex).unlockSlow", "internal/sync.fatal", "internal/sync.runtime_Semrelease", "sync/atomic.StoreUint32"], unfollowed := true, recurses := true, apart := false }
def LedgerGetsSaid : Prop := ledgerGetsRow.holds Tryz.pinned (OpenSpec.ofChange ledgerGetsSpec)

/-- ITS FALSE NEIGHBOUR: 'it returns false'. Refute it at one input. -/
def ledgerGetsWrong : ChangeSpec := { name := "ledgerGets", fn := fun _ => fun
  | [d1, d2, d3, d4] => { results := [.lit (.bool false)], args := [d1, d2, d3, d4] }
  | _ => none }
def LedgerGetsWrongFalsely : Prop := ledgerGetsRow.holds Tryz.pinned (OpenSpec.ofChange ledgerGetsWrong)

/-- 'ciboriumlaw31.ScrubPlays': WHATEVER THE INPUT: true; the input reads as it did. -/
def scrubPlaysSpec : ChangeSpec := { name := "scrubPlays", fn := fun _ => fun
  | [d1, d2] => { results := [.lit (.bool true)], args := [d1, d2] }
  | _ => none }
def scrubPlaysRow : OpenClaim := { program := "ytihnlhfngmbglaagreat", sum := "bb0d31053966cd7d7fe1a49c66aa673304e0ebf3e8e93e72265191fa26d4ab55", func := "ciborium/ciboriumlaw31.ScrubPlays", spec := "scrubPlays", inPlace := ["sync/atomic.LoadUint32", "(*internal/sync.Mutex).Lock", "internal/race.Disable", "sync/atomic.CompareAndSwapInt32", "internal/race.Enable", "internal/race.Acquire", "(*internal/sync.Mutex).lockSlow", "internal/sync.runtime_canSpin", "internal/sync.runtime_doSpin", "internal/sync.throw", "internal/sync.runtime_nanotime", "internal/sync.runtime_SemacquireMutex", "sync/atomic.AddInt32", "(*internal/sync.Mutex).Unlock", "internal/race.ReleaseMerge", "(*internal/sync.Mutex).unlockSlow", "internal/sync.fatal", "internal/sync.runtime_Semrelease", "sync/atomic.StoreUint32"], unfollowed := true, recurses := true, apart := false }
def ScrubPlaysSaid : Prop := scrubPlaysRow.holds Tryz.pinned (OpenSpec.ofChange scrubPlaysSpec)

/-- ITS FALSE NEIGHBOUR: 'it returns false'. Refute it at one input. -/
def scrubPlaysWrong : ChangeSpec := { name := "scrubPlays", fn := fun _ => fun
  | [d1, d2] => { results := [.lit (.bool false)], args := [d1, d2] }
  | _ => none }
def ScrubPlaysWrongFalsely : Prop := scrubPlaysRow.holds Tryz.pinned (OpenSpec.ofChange scrubPlaysWrong)

/-- 'ciboriumlaw31.ScrubLost': WHATEVER THE INPUT: true; the input reads as it did. -/
def scrubLostSpec : ChangeSpec := { name := "scrubLost", fn := fun _ => fun
  | [d1, d2, d3] => { results := [.lit (.bool true)], args := [d1, d2, d3] }
  | _ => none }
def scrubLostRow : OpenClaim := { program := "ytihnlhfngmbglaagreat", sum := "bb0d31053966cd7d7fe1a49c66aa673304e0ebf3e8e93e72265191fa26d4ab55", func := "ciborium/ciboriumlaw31.ScrubLost", spec := "scrubLost", inPlace := ["sync/atomic.LoadUint32", "(*internal/sync.Mutex).Lock", "internal/race.Disable", "sync/atomic.CompareAndSwapInt32", "internal/race.Enable", "internal/race.Acquire", "(*internal/sync.Mutex).lockSlow", "internal/sync.runtime_canSpin", "internal/sync.runtime_doSpin", "internal/sync.throw", "internal/sync.runtime_nanotime", "internal/sync.runtime_SemacquireMutex", "sync/atomic.AddInt32", "(*internal/sync.Mutex).Unlock", "internal/race.ReleaseMerge", "(*internal/sync.Mutex).unlockSlow", "internal/sync.fatal", "internal/sync.runtime_Semrelease", "sync/atomic.StoreUint32"], unfollowed := true, recurses := true, apart := false }
def ScrubLostSaid : Prop := scrubLostRow.holds Tryz.pinned (OpenSpec.ofChange scrubLostSpec)

/-- ITS FALSE NEIGHBOUR: 'it returns false'. Refute it at one input. -/
def scrubLostWrong : ChangeSpec := { name := "scrubLost", fn := fun _ => fun
  | [d1, d2, d3] => { results := [.lit (.bool false)], args := [d1, d2, d3] }
  | _ => none }
def ScrubLostWrongFalsely : Prop := scrubLostRow.holds Tryz.pinned (OpenSpec.ofChange scrubLostWrong)

/-- 'ciboriumlaw31.ScrubAll': WHATEVER THE INPUT: true; the input reads as it did. -/
def scrubAllSpec : ChangeSpec := { name := "scrubAll", fn := fun _ => fun
  | [d1, d2, d3, d4, d5] => { results := [.lit (.bool true)], args := [d1, d2, d3, d4, d5] }
  | _ => none }
def scrubAllRow : OpenClaim := { program := "ytihnlhfngmbglaagreat", sum := "bb0d31053966cd7d7fe1a49c66aa673304e0ebf3e8e93e72265191fa26d4ab55", func := "ciborium/ciboriumlaw31.ScrubAll", spec := "scrubAll", inPlace := ["sync/atomic.LoadUint32", "(*internal/sync.Mutex).Lock", "internal/race.Disable", "sync/atomic.CompareAndSwapInt32", "internal/race.Enable", "internal/race.Acquire", "(*internal/sync.Mutex).lockSlow", "internal/sync.runtime_canSpin", "internal/sync.runtime_doSpin", "internal/sync.throw", "internal/sync.runtime_nanotime", "internal/sync.runtime_SemacquireMutex", "sync/atomic.AddInt32", "(*internal/sync.Mutex).Unlock", "internal/race.ReleaseMerge", "(*internal/sync.Mutex).unlockSlow", "internal/sync.fatal", "internal/sync.runtime_Semrelease", "sync/atomic.StoreUint32"], unfollowed := true, recurses := true, apart := false }
def ScrubAllSaid : Prop := scrubAllRow.holds Tryz.pinned (OpenSpec.ofChange scrubAllSpec)

/-- ITS FALSE NEIGHBOUR: 'it returns false'. Refute it at one input. -/
def scrubAllWrong : ChangeSpec := { name := "scrubAll", fn := fun _ => fun
  | [d1, d2, d3, d4, d5] => { results := [.lit (.bool false)], args := [d1, d2, d3, d4, d5] }
  | _ => none }
def ScrubAllWrongFalsely : Prop := scrubAllRow.holds Tryz.pinned (OpenSpec.ofChange scrubAllWrong)

/- THE SECOND FORM. 'bulk': how many values and letters a reading holds, each counted each time it is reached (what is shared counts as often as it is met; a slice's spare places count too). A statement '..UptoSaid' is the law's where the arguments, and the package variables that the reading takes, are together of bulk at most 1048576: NARROWER than '..Said'. Prove '..Said' where nothing that the law and all that it calls make is longer than what came in: it says more and counts as full. Else prove '..UptoSaid'. A law counts once. -/
mutual
def uptoBulk {H : Type} : DataW H → Nat
  | .lit (.string bytes) => bytes.length + 1
  | .lit _ => 1
  | .nil => 1
  | .ptr d => uptoBulk d + 1
  | .slice elems spare => uptoBulkAll elems + uptoBulkAll spare + 1
  | .agg parts => uptoBulkAll parts + 1
  | .iface _ d => uptoBulk d + 1
  | .map entries => uptoBulkEntries entries + 1
  | .held _ => 1
def uptoBulkAll {H : Type} : List (DataW H) → Nat
  | [] => 0
  | d :: r => uptoBulk d + uptoBulkAll r
def uptoBulkEntries {H : Type} : List (Lit × DataW H) → Nat
  | [] => 0
  | x :: r => uptoBulkEntry x + uptoBulkEntries r
def uptoBulkEntry {H : Type} : Lit × DataW H → Nat
  | (.string bytes, d) => bytes.length + uptoBulk d + 1
  | (_, d) => uptoBulk d + 1
 end
def uptoSmall : (H : Type) → List (DataW H) → Bool := fun _ ds => decide (uptoBulkAll ds ≤ 1048576)
def OpenSpec.upto (s : _root_.Go.ChangeSpec) : _root_.Go.OpenSpec := { _root_.Go.OpenSpec.ofChange s with cond := some uptoSmall }

/-- 'ciboriumlaw30.LedgerSpares', WHERE WHAT IT READS IS OF BULK AT MOST 1048576: true; the input reads as it did. -/
def ledgerSparesUptoRow : OpenClaim := { program := "ytihnlhfngmbglaagreat", sum := "bb0d31053966cd7d7fe1a49c66aa673304e0ebf3e8e93e72265191fa26d4ab55", func := "ciborium/ciboriumlaw30.LedgerSpares", spec := "ledgerSpares", inPlace := ["sync/atomic.LoadUint32", "(*internal/sync.Mutex).Lock", "internal/race.Disable", "sync/atomic.CompareAndSwapInt32", "internal/race.Enable", "internal/race.Acquire", "(*internal/sync.Mutex).lockSlow", "internal/sync.runtime_canSpin", "internal/sync.runtime_doSpin", "internal/sync.throw", "internal/sync.runtime_nanotime", "internal/sync.runtime_SemacquireMutex", "sync/atomic.AddInt32", "(*internal/sync.Mutex).Unlock", "internal/race.ReleaseMerge", "(*internal/sync.Mutex).unlockSlow", "internal/sync.fatal", "internal/sync.runtime_Semrelease", "sync/atomic.StoreUint32"], unfollowed := true, recurses := true, apart := false, narrowed := true }
def LedgerSparesUptoSaid : Prop := ledgerSparesUptoRow.holds Tryz.pinned (OpenSpec.upto ledgerSparesSpec)

/-- 'ciboriumlaw30.LedgerTells', WHERE WHAT IT READS IS OF BULK AT MOST 1048576: true; the input reads as it did. -/
def ledgerTellsUptoRow : OpenClaim := { program := "ytihnlhfngmbglaagreat", sum := "bb0d31053966cd7d7fe1a49c66aa673304e0ebf3e8e93e72265191fa26d4ab55", func := "ciborium/ciboriumlaw30.LedgerTells", spec := "ledgerTells", inPlace := ["sync/atomic.LoadUint32", "(*internal/sync.Mutex).Lock", "internal/race.Disable", "sync/atomic.CompareAndSwapInt32", "internal/race.Enable", "internal/race.Acquire", "(*internal/sync.Mutex).lockSlow", "internal/sync.runtime_canSpin", "internal/sync.runtime_doSpin", "internal/sync.throw", "internal/sync.runtime_nanotime", "internal/sync.runtime_SemacquireMutex", "sync/atomic.AddInt32", "(*internal/sync.Mutex).Unlock", "internal/race.ReleaseMerge", "(*internal/sync.Mutex).unlockSlow", "internal/sync.fatal", "internal/sync.runtime_Semrelease", "sync/atomic.StoreUint32"], unfollowed := true, recurses := true, apart := false, narrowed := true }
def LedgerTellsUptoSaid : Prop := ledgerTellsUptoRow.holds Tryz.pinned (OpenSpec.upto ledgerTellsSpec)

/-- 'ciboriumlaw30.LedgerRises', WHERE WHAT IT READS IS OF BULK AT MOST 1048576: true; the input reads as it did. -/
def ledgerRisesUptoRow : OpenClaim := { program := "ytihnlhfngmbglaagreat", sum := "bb0d31053966cd7d7fe1a49c66aa673304e0ebf3e8e93e72265191fa26d4ab55", func := "ciborium/ciboriumlaw30.LedgerRises", spec := "ledgerRises", inPlace := ["sync/atomic.LoadUint32", "(*internal/sync.Mutex).Lock", "internal/race.Disable", "sync/atomic.CompareAndSwapInt32", "internal/race.Enable", "internal/race.Acquire", "(*internal/sync.Mutex).lockSlow", "internal/sync.runtime_canSpin", "internal/sync.runtime_doSpin", "internal/sync.throw", "internal/sync.runtime_nanotime", "internal/sync.runtime_SemacquireMutex", "sync/atomic.AddInt32", "(*internal/sync.Mutex).Unlock", "internal/race.ReleaseMerge", "(*internal/sync.Mutex).unlockSlow", "internal/sync.fatal", "internal/sync.runtime_Semrelease", "sync/atomic.StoreUint32"], unfollowed := true, recurses := true, apart := false, narrowed := true }
def LedgerRisesUptoSaid : Prop := ledgerRisesUptoRow.holds Tryz.pinned (OpenSpec.upto ledgerRisesSpec)

/-- 'ciboriumlaw31.ScrubTurns', WHERE WHAT IT READS IS OF BULK AT MOST 1048576: true; the input reads as it did. -/
def scrubTurnsUptoRow : OpenClaim := { program := "ytihnlhfngmbglaagreat", sum := "bb0d31053966cd7d7fe1a49c66aa673304e0ebf3e8e93e72265191fa26d4ab55", func := "ciborium/ciboriumlaw31.ScrubTurns", spec := "scrubTurns", inPlace := ["sync/atomic.LoadUint32", "(*internal/sync.Mutex).Lock", "internal/race.Disable", "sync/atomic.CompareAndSwapInt32", "internal/race.Enable", "internal/race.Acquire", "(*internal/sync.Mutex).lockSlow", "internal/sync.runtime_canSpin", "internal/sync.runtime_doSpin", "internal/sync.throw", "internal/sync.runtime_nanotime", "internal/sync.runtime_SemacquireMutex", "sync/atomic.AddInt32", "(*internal/sync.Mutex).Unlock", "internal/race.ReleaseMerge", "(*internal/sync.Mutex).unlockSlow", "internal/sync.fatal", "internal/sync.runtime_Semrelease", "sync/atomic.StoreUint32"], unfollowed := true, recurses := true, apart := false, narrowed := true }
def ScrubTurnsUptoSaid : Prop := scrubTurnsUptoRow.holds Tryz.pinned (OpenSpec.upto scrubTurnsSpec)

/-- 'ciboriumlaw30.LedgerGets', WHERE WHAT IT READS IS OF BULK AT MOST 1048576: true; the input reads as it did. -/
def ledgerGetsUptoRow : OpenClaim := { program := "ytihnlhfngmbglaagreat", sum := "bb0d31053966cd7d7fe1a49c66aa673304e0ebf3e8e93e72265191fa26d4ab55", func := "ciborium/ciboriumlaw30.LedgerGets", spec := "ledgerGets", inPlace := ["sync/atomic.LoadUint32", "(*internal/sync.Mutex).Lock", "internal/race.Disable", "sync/atomic.CompareAndSwapInt32", "internal/race.Enable", "internal/race.Acquire", "(*internal/sync.Mutex).lockSlow", "internal/sync.runtime_canSpin", "internal/sync.runtime_doSpin", "internal/sync.throw", "internal/sync.runtime_nanotime", "internal/sync.runtime_SemacquireMutex", "sync/atomic.AddInt32", "(*internal/sync.Mutex).Unlock", "internal/race.ReleaseMerge", "(*internal/sync.Mutex).unlockSlow", "internal/sync.fatal", "internal/sync.runtime_Semrelease", "sync/atomic.StoreUint32"], unfollowed := true, recurses := true, apart := false, narrowed := true }
def LedgerGetsUptoSaid : Prop := ledgerGetsUptoRow.holds Tryz.pinned (OpenSpec.upto ledgerGetsSpec)

/-- 'ciboriumlaw31.ScrubPlays', WHERE WHAT IT READS IS OF BULK AT MOST 1048576: true; the input reads as it did. -/
def scrubPlaysUptoRow : OpenClaim := { program := "ytihnlhfngmbglaagreat", sum := "bb0d31053966cd7d7fe1a49c66aa673304e0ebf3e8e93e72265191fa26d4ab55", func := "ciborium/ciboriumlaw31.ScrubPlays", spec := "scrubPlays", inPlace := ["sync/atomic.LoadUint32", "(*internal/sync.Mutex).Lock", "internal/race.Disable", "sync/atomic.CompareAndSwapInt32", "internal/race.Enable", "internal/race.Acquire", "(*internal/sync.Mutex).lockSlow", "internal/sync.runtime_canSpin", "internal/sync.runtime_doSpin", "internal/sync.throw", "internal/sync.runtime_nanotime", "internal/sync.runtime_SemacquireMutex", "sync/atomic.AddInt32", "(*internal/sync.Mutex).Unlock", "internal/race.ReleaseMerge", "(*internal/sync.Mutex).unlockSlow", "internal/sync.fatal", "internal/sync.runtime_Semrelease", "sync/atomic.StoreUint32"], unfollowed := true, recurses := true, apart := false, narrowed := true }
def ScrubPlaysUptoSaid : Prop := scrubPlaysUptoRow.holds Tryz.pinned (OpenSpec.upto scrubPlaysSpec)

/-- 'ciboriumlaw31.ScrubLost', WHERE WHAT IT READS IS OF BULK AT MOST 1048576: true; the input reads as it did. -/
def scrubLostUptoRow : OpenClaim := { program := "ytihnlhfngmbglaagreat", sum := "bb0d31053966cd7d7fe1a49c66aa673304e0ebf3e8e93e72265191fa26d4ab55", func := "ciborium/ciboriumlaw31.ScrubLost", spec := "scrubLost", inPlace := ["sync/atomic.LoadUint32", "(*internal/sync.Mutex).Lock", "internal/race.Disable", "sync/atomic.CompareAndSwapInt32", "internal/race.Enable", "internal/race.Acquire", "(*internal/sync.Mutex).lockSlow", "internal/sync.runtime_canSpin", "internal/sync.runtime_doSpin", "internal/sync.throw", "internal/sync.runtime_nanotime", "internal/sync.runtime_SemacquireMutex", "sync/atomic.AddInt32", "(*internal/sync.Mutex).Unlock", "internal/race.ReleaseMerge", "(*internal/sync.Mutex).unlockSlow", "internal/sync.fatal", "internal/sync.runtime_Semrelease", "sync/atomic.StoreUint32"], unfollowed := true, recurses := true, apart := false, narrowed := true }
def ScrubLostUptoSaid : Prop := scrubLostUptoRow.holds Tryz.pinned (OpenSpec.upto scrubLostSpec)

/-- 'ciboriumlaw31.ScrubAll', WHERE WHAT IT READS IS OF BULK AT MOST 1048576: true; the input reads as it did. -/
def scrubAllUptoRow : OpenClaim := { program := "ytihnlhfngmbglaagreat", sum := "bb0d31053966cd7d7fe1a49c66aa673304e0ebf3e8e93e72265191fa26d4ab55", func := "ciborium/ciboriumlaw31.ScrubAll", spec := "scrubAll", inPlace := ["sync/atomic.LoadUint32", "(*internal/sync.Mutex).Lock", "internal/race.Disable", "sync/atomic.CompareAndSwapInt32", "internal/race.Enable", "internal/race.Acquire", "(*internal/sync.Mutex).lockSlow", "internal/sync.runtime_canSpin", "internal/sync.runtime_doSpin", "internal/sync.throw", "internal/sync.runtime_nanotime", "internal/sync.runtime_SemacquireMutex", "sync/atomic.AddInt32", "(*internal/sync.Mutex).Unlock", "internal/race.ReleaseMerge", "(*internal/sync.Mutex).unlockSlow", "internal/sync.fatal", "internal/sync.runtime_Semrelease", "sync/atomic.StoreUint32"], unfollowed := true, recurses := true, apart := false, narrowed := true }
def ScrubAllUptoSaid : Prop := scrubAllUptoRow.holds Tryz.pinned (OpenSpec.upto scrubAllSpec)

end Rows
end Go.Proofs.YtihnlhfngmbglaaGreat
