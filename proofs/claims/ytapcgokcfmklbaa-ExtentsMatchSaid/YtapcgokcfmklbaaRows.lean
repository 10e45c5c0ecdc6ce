/-
  No cell of these rows narrows 'for every input' (looked for: loops, veiled, ifaces, maps, wideKeys, modest, calm, conditions, laid).
  DERIVED. THE GIVEN ROWS OF THIS SEAT. 6 by the template 'for every input the law returns true; each argument reads behind the call as it read before'; 0 by the template 'total and deterministic' (their statements: YtapcgokcfmklbaaTotals.lean).
  GIVEN WITH THE SEED: the statements are not yours to turn. If you find one false, say at which input.
  Laid BY PROGRAM, IN A SANDBOX (cutbox-rows.mjs): the forced cells as the released guide's own fill.sh prints them over the translation 329c48f3f294cd65… (all of the seat's roots in one cut). By AI agents, Wed Nov 11 2026. No macro, syntax, notation, axiom, sorry.
-/
import Derived.Test.YtapcgokcfmklbaaChecked
import GoSem.Claim
import GoSem.ClaimJoined
import GoSem.ClaimMapViews
import Derived.JoinedTies
import Derived.KernelRfl
namespace Go.Proofs.Ytapcgokcfmklbaa
/- THE CELL 'sum', in the pinned program and in every row, IS THE sha256 OF THE DUMP (.gsa) THAT YtapcgokcfmklbaaProg.lean LOADS. Nothing in Lean hashes anything: it is a label: what it is worth is what the hold of that sum in a sandbox is worth. -/
noncomputable def Try.pinned : Pinned := { name := "ytapcgokcfmklbaa", sum := "329c48f3f294cd65c7ed23f2a6831f7db3f8782e35652ea4fa0af9ca37ad03d0", checked := Try.checked }
namespace Rows
def none {H : Type} : Left H := { results := [], args := [] }

/-- 'dyelaw1.NothingChanged': WHATEVER THE INPUT: true; the input reads as it did. -/
def nothingChangedSpec : ChangeSpec := { name := "nothingChanged", fn := fun _ => fun
  | [d] => { results := [.lit (.bool true)], args := [d] }
  | _ => none }
def nothingChangedRow : OpenClaim := { program := "ytapcgokcfmklbaa", sum := "329c48f3f294cd65c7ed23f2a6831f7db3f8782e35652ea4fa0af9ca37ad03d0", func := "dyehouse/dyelaw1.NothingChanged", spec := "nothingChanged", inPlace := ["math.Float32frombits", "math.Float32bits", "math.Float64bits", "math.Float64frombits"], unfollowed := true, recurses := true, apart := false }
def NothingChangedSaid : Prop := nothingChangedRow.holds Try.pinned (OpenSpec.ofChange nothingChangedSpec)

/-- ITS FALSE NEIGHBOUR: 'it returns false'. Refute it at one input. -/
def nothingChangedWrong : ChangeSpec := { name := "nothingChanged", fn := fun _ => fun
  | [d] => { results := [.lit (.bool false)], args := [d] }
  | _ => none }
def NothingChangedWrongFalsely : Prop := nothingChangedRow.holds Try.pinned (OpenSpec.ofChange nothingChangedWrong)

/-- 'dyelaw1.ExtentsMatch': WHATEVER THE INPUT: true; the input reads as it did. -/
def extentsMatchSpec : ChangeSpec := { name := "extentsMatch", fn := fun _ => fun
  | [d1, d2, d3] => { results := [.lit (.bool true)], args := [d1, d2, d3] }
  | _ => none }
def extentsMatchRow : OpenClaim := { program := "ytapcgokcfmklbaa", sum := "329c48f3f294cd65c7ed23f2a6831f7db3f8782e35652ea4fa0af9ca37ad03d0", func := "dyehouse/dyelaw1.ExtentsMatch", spec := "extentsMatch", inPlace := ["math.Float32frombits", "math.Float32bits"], unfollowed := true, recurses := true, apart := false }
def ExtentsMatchSaid : Prop := extentsMatchRow.holds Try.pinned (OpenSpec.ofChange extentsMatchSpec)

/-- ITS FALSE NEIGHBOUR: 'it returns false'. Refute it at one input. -/
def extentsMatchWrong : ChangeSpec := { name := "extentsMatch", fn := fun _ => fun
  | [d1, d2, d3] => { results := [.lit (.bool false)], args := [d1, d2, d3] }
  | _ => none }
def ExtentsMatchWrongFalsely : Prop := extentsMatchRow.holds Try.pinned (OpenSpec.ofChange extentsMatchWrong)

/-- 'dyelaw1.KeyFramesMatch': WHATEVER THE INPUT: true; the input reads as it did. -/
def keyFramesMatchSpec : ChangeSpec := { name := "keyFramesMatch", fn := fun _ => fun
  | [d1, d2, d3, d4] => { results := [.lit (.bool true)], args := [d1, d2, d3, d4] }
  | _ => none }
def keyFramesMatchRow : OpenClaim := { program := "ytapcgokcfmklbaa", sum := "329c48f3f294cd65c7ed23f2a6831f7db3f8782e35652ea4fa0af9ca37ad03d0", func := "dyehouse/dyelaw1.KeyFramesMatch", spec := "keyFramesMatch", inPlace := ["math.Float32frombits", "math.Float32bits", "math.RoundToEven"], unfollowed := true, recurses := true, apart := false }
def KeyFramesMatchSaid : Prop := keyFramesMatchRow.holds Try.pinned (OpenSpec.ofChange keyFramesMatchSpec)

/-- ITS FALSE NEIGHBOUR: 'it returns false'. Refute it at one input. -/
def keyFramesMatchWrong : ChangeSpec := { name := "keyFramesMatch", fn := fun _ => fun
  | [d1, d2, d3, d4] => { results := [.lit (.bool false)], args := [d1, d2, d3, d4] }
  | _ => none }
def KeyFramesMatchWrongFalsely : Prop := keyFramesMatchRow.holds Try.pinned (OpenSpec.ofChange keyFramesMatchWrong)

/-- 'dyetop.TopMovedWindow': WHATEVER THE INPUT: true; the input reads as it did. -/
def topMovedWindowSpec : ChangeSpec := { name := "topMovedWindow", fn := fun _ => fun
  | [d1, d2, d3, d4] => { results := [.lit (.bool true)], args := [d1, d2, d3, d4] }
  | _ => none }
def topMovedWindowRow : OpenClaim := { program := "ytapcgokcfmklbaa", sum := "329c48f3f294cd65c7ed23f2a6831f7db3f8782e35652ea4fa0af9ca37ad03d0", func := "dyehouse/dyetop.TopMovedWindow", spec := "topMovedWindow", inPlace := ["math.Float32frombits", "math.Float32bits", "math.Float64bits", "math.Float64frombits", "math.sqrt"], unfollowed := true, recurses := true, apart := false }
def TopMovedWindowSaid : Prop := topMovedWindowRow.holds Try.pinned (OpenSpec.ofChange topMovedWindowSpec)

/-- ITS FALSE NEIGHBOUR: 'it returns false'. Refute it at one input. -/
def topMovedWindowWrong : ChangeSpec := { name := "topMovedWindow", fn := fun _ => fun
  | [d1, d2, d3, d4] => { results := [.lit (.bool false)], args := [d1, d2, d3, d4] }
  | _ => none }
def TopMovedWindowWrongFalsely : Prop := topMovedWindowRow.holds Try.pinned (OpenSpec.ofChange topMovedWindowWrong)

/-- 'dyetop.TopScopesOfTiles': WHATEVER THE INPUT: true; the input reads as it did. -/
def topScopesOfTilesSpec : ChangeSpec := { name := "topScopesOfTiles", fn := fun _ => fun
  | [d1, d2, d3, d4] => { results := [.lit (.bool true)], args := [d1, d2, d3, d4] }
  | _ => none }
def topScopesOfTilesRow : OpenClaim := { program := "ytapcgokcfmklbaa", sum := "329c48f3f294cd65c7ed23f2a6831f7db3f8782e35652ea4fa0af9ca37ad03d0", func := "dyehouse/dyetop.TopScopesOfTiles", spec := "topScopesOfTiles", inPlace := ["math.Float32frombits", "math.Float32bits", "math.archFloor", "math.Float64bits", "math.Float64frombits", "math.archTrunc"], unfollowed := true, recurses := true, apart := false }
def TopScopesOfTilesSaid : Prop := topScopesOfTilesRow.holds Try.pinned (OpenSpec.ofChange topScopesOfTilesSpec)

/-- ITS FALSE NEIGHBOUR: 'it returns false'. Refute it at one input. -/
def topScopesOfTilesWrong : ChangeSpec := { name := "topScopesOfTiles", fn := fun _ => fun
  | [d1, d2, d3, d4] => { results := [.lit (.bool false)], args := [d1, d2, d3, d4] }
  | _ => none }
def TopScopesOfTilesWrongFalsely : Prop := topScopesOfTilesRow.holds Try.pinned (OpenSpec.ofChange topScopesOfTilesWrong)

/-- 'dyelaw1.WordsMatch': WHATEVER THE INPUT: true; the input reads as it did. -/
def wordsMatchSpec : ChangeSpec := { name := "wordsMatch", fn := fun _ => fun
  | [d1, d2] => { results := [.lit (.bool true)], args := [d1, d2] }
  | _ => none }
def wordsMatchRow : OpenClaim := { program := "ytapcgokcfmklbaa", sum := "329c48f3f294cd65c7ed23f2a6831f7db3f8782e35652ea4fa0af9ca37ad03d0", func := "dyehouse/dyelaw1.WordsMatch", spec := "wordsMatch", inPlace := ["math.Float32frombits", "math.Float32bits", "internal/bytealg.IndexByteString", "internal/bytealg.IndexString", "sync/atomic.LoadUint32", "(*internal/sync.Mutex).Lock", "internal/race.Disable", "sync/atomic.CompareAndSwapInt32", "internal/race.Enable", "internal/race.Acquire", "(*internal/sync.Mutex).lockSlow", "internal/sync.runtime_canSpin", "internal/sync.runtime_doSpin", "internal/sync.throw", "internal/sync.runtime_nanotime", "internal/sync.runtime_SemacquireMutex", "sync/atomic.AddInt32", "(*internal/sync.Mutex).Unlock", "internal/race.ReleaseMerge", "(*internal/sync.Mutex).unlockSlow", "internal/sync.fatal", "internal/sync.runtime_Semrelease", "sync/atomic.StoreUint32"], unfollowed := true, recurses := true, named := ["internal/bytealg.MaxLen"], apart := false }
def WordsMatchSaid : Prop := wordsMatchRow.holds Try.pinned (OpenSpec.ofChange wordsMatchSpec)

/-- ITS FALSE NEIGHBOUR: 'it returns false'. Refute it at one input. -/
def wordsMatchWrong : ChangeSpec := { name := "wordsMatch", fn := fun _ => fun
  | [d1, d2] => { results := [.lit (.bool false)], args := [d1, d2] }
  | _ => none }
def WordsMatchWrongFalsely : Prop := wordsMatchRow.holds Try.pinned (OpenSpec.ofChange wordsMatchWrong)

/- THE SECOND FORM. 'bulk': how many values and letters a reading holds, each counted each time it is reached (what is shared counts as often as it is met; a slice's spare places count too). A statement '..UptoSaid' is the law's where the arguments, and the package variables that the reading takes, are together of bulk at most 1048576: NARROWER than '..Said'. Prove '..Said' where nothing that the law and all that it calls make is longer than what came in: it says more and counts as full. Else prove '..UptoSaid'. A law counts once. -/
mutual
def uptoBulk {H : Type} : DataW H → Nat
  | .lit (.string bytes) => bytes.length + 1
  | .lit _ => 1
  | .nil => 1
  | .ptr d => uptoBulk d + 1
  | .slice elems spare => uptoBulkAll elems + uptoBulkAll spare + 1
  | .agg parts => uptoBulkAll parts + 1
  | .iface _ d => uptoBulk d + 1
  | .map entries => uptoBulkEntries entries + 1
  | .held _ => 1
def uptoBulkAll {H : Type} : List (DataW H) → Nat
  | [] => 0
  | d :: r => uptoBulk d + uptoBulkAll r
def uptoBulkEntries {H : Type} : List (Lit × DataW H) → Nat
  | [] => 0
  | x :: r => uptoBulkEntry x + uptoBulkEntries r
def uptoBulkEntry {H : Type} : Lit × DataW H → Nat
  | (.string bytes, d) => bytes.length + uptoBulk d + 1
  | (_, d) => uptoBulk d + 1
 end
def uptoSmall : (H : Type) → List (DataW H) → Bool := fun _ ds => decide (uptoBulkAll ds ≤ 1048576)
def OpenSpec.upto (s : _root_.Go.ChangeSpec) : _root_.Go.OpenSpec := { _root_.Go.OpenSpec.ofChange s with cond := some uptoSmall }

/-- 'dyelaw1.NothingChanged', WHERE WHAT IT READS IS OF BULK AT MOST 1048576: true; the input reads as it did. -/
def nothingChangedUptoRow : OpenClaim := { program := "ytapcgokcfmklbaa", sum := "329c48f3f294cd65c7ed23f2a6831f7db3f8782e35652ea4fa0af9ca37ad03d0", func := "dyehouse/dyelaw1.NothingChanged", spec := "nothingChanged", inPlace := ["math.Float32frombits", "math.Float32bits", "math.Float64bits", "math.Float64frombits"], unfollowed := true, recurses := true, apart := false, narrowed := true }
def NothingChangedUptoSaid : Prop := nothingChangedUptoRow.holds Try.pinned (OpenSpec.upto nothingChangedSpec)

/-- 'dyelaw1.ExtentsMatch', WHERE WHAT IT READS IS OF BULK AT MOST 1048576: true; the input reads as it did. -/
def extentsMatchUptoRow : OpenClaim := { program := "ytapcgokcfmklbaa", sum := "329c48f3f294cd65c7ed23f2a6831f7db3f8782e35652ea4fa0af9ca37ad03d0", func := "dyehouse/dyelaw1.ExtentsMatch", spec := "extentsMatch", inPlace := ["math.Float32frombits", "math.Float32bits"], unfollowed := true, recurses := true, apart := false, narrowed := true }
def ExtentsMatchUptoSaid : Prop := extentsMatchUptoRow.holds Try.pinned (OpenSpec.upto extentsMatchSpec)

/-- 'dyelaw1.KeyFramesMatch', WHERE WHAT IT READS IS OF BULK AT MOST 1048576: true; the input reads as it did. -/
def keyFramesMatchUptoRow : OpenClaim := { program := "ytapcgokcfmklbaa", sum := "329c48f3f294cd65c7ed23f2a6831f7db3f8782e35652ea4fa0af9ca37ad03d0", func := "dyehouse/dyelaw1.KeyFramesMatch", spec := "keyFramesMatch", inPlace := ["math.Float32frombits", "math.Float32bits", "math.RoundToEven"], unfollowed := true, recurses := true, apart := false, narrowed := true }
def KeyFramesMatchUptoSaid : Prop := keyFramesMatchUptoRow.holds Try.pinned (OpenSpec.upto keyFramesMatchSpec)

/-- 'dyetop.TopMovedWindow', WHERE WHAT IT READS IS OF BULK AT MOST 1048576: true; the input reads as it did. -/
def topMovedWindowUptoRow : OpenClaim := { program := "ytapcgokcfmklbaa", sum := "329c48f3f294cd65c7ed23f2a6831f7db3f8782e35652ea4fa0af9ca37ad03d0", func := "dyehouse/dyetop.TopMovedWindow", spec := "topMovedWindow", inPlace := ["math.Float32frombits", "math.Float32bits", "math.Float64bits", "math.Float64frombits", "math.sqrt"], unfollowed := true, recurses := true, apart := false, narrowed := true }
def TopMovedWindowUptoSaid : Prop := topMovedWindowUptoRow.holds Try.pinned (OpenSpec.upto topMovedWindowSpec)

/-- 'dyetop.TopScopesOfTiles', WHERE WHAT IT READS IS OF BULK AT MOST 1048576: true; the input reads as it did. -/
def topScopesOfTilesUptoRow : OpenClaim := { program := "ytapcgokcfmklbaa", sum := "329c48f3f294cd65c7ed23f2a6831f7db3f8782e35652ea4fa0af9ca37ad03d0", func := "dyehouse/dyetop.TopScopesOfTiles", spec := "topScopesOfTiles", inPlace := ["math.Float32frombits", "math.Float32bits", "math.archFloor", "math.Float64bits", "math.Float64frombits", "math.archTrunc"], unfollowed := true, recurses := true, apart := false, narrowed := true }
def TopScopesOfTilesUptoSaid : Prop := topScopesOfTilesUptoRow.holds Try.pinned (OpenSpec.upto topScopesOfTilesSpec)

/-- 'dyelaw1.WordsMatch', WHERE WHAT IT READS IS OF BULK AT MOST 1048576: true; the input reads as it did. -/
def wordsMatchUptoRow : OpenClaim := { program := "ytapcgokcfmklbaa", sum := "329c48f3f294cd65c7ed23f2a6831f7db3f8782e35652ea4fa0af9ca37ad03d0", func := "dyehouse/dyelaw1.WordsMatch", spec := "wordsMatch", inPlace := ["math.Float32frombits", "math.Float32bits", "internal/bytealg.IndexByteString", "internal/bytealg.IndexString", "sync/atomic.LoadUint32", "(*internal/sync.Mutex).Lock", "internal/race.Disable", "sync/atomic.CompareAndSwapInt32", "internal/race.Enable", "internal/race.Acquire", "(*internal/sync.Mutex).lockSlow", "internal/sync.runtime_canSpin", "internal/sync.runtime_doSpin", "internal/sync.throw", "internal/sync.runtime_nanotime", "internal/sync.runtime_SemacquireMutex", "sync/atomic.AddInt32", "(*internal/sync.Mutex).Unlock", "internal/race.ReleaseMerge", "(*internal/sync.Mutex).unlockSlow", "internal/sync.fatal", "internal/sync.runtime_Semrelease", "sync/atomic.StoreUint32"], unfollowed := true, recurses := true, named := ["internal/bytealg.MaxLen"], apart := false, narrowed := true }
def WordsMatchUptoSaid : Prop := wordsMatchUptoRow.holds Try.pinned (OpenSpec.upto wordsMatchSpec)

end Rows
end Go.Proofs.Ytapcgokcfmklbaa
