/-
  No cell of these rows narrows 'for every input' (looked for: loops, veiled, ifaces, maps, wideKeys, modest, calm, conditions, laid).
  DERIVED. THE GIVEN ROWS OF THIS SEAT. 16 by the template 'for every input the law returns true; each argument reads behind the call as it read before'; 0 by the template 'total and deterministic' (their statements: YtplfeaikjgfhcaaTotals.lean).
  GIVEN WITH THE SEED: the statements are not yours to turn. If you find one false, say at which input.
  Laid BY PROGRAM, IN A SANDBOX (cutbox-rows.mjs): the forced cells as the released guide's own fill.sh prints them over the translation c8d01156ed18b5be… (all of the seat's roots in one cut). By AI agents, Wed Nov 11 2026. No macro, syntax, notation, axiom, sorry.
-/
import Derived.Test.YtplfeaikjgfhcaaChecked
import GoSem.Claim
import GoSem.ClaimJoined
import GoSem.ClaimMapViews
import Derived.JoinedTies
import Derived.KernelRfl
namespace Go.Proofs.Ytplfeaikjgfhcaa
/- THE CELL 'sum', in the pinned program and in every row, IS THE sha256 OF THE DUMP (.gsa) THAT YtplfeaikjgfhcaaProg.lean LOADS. Nothing in Lean hashes anything: it is a label: what it is worth is what the hold of that sum in a sandbox is worth. -/
noncomputable def Try.pinned : Pinned := { name := "ytplfeaikjgfhcaa", sum := "c8d01156ed18b5beef152370b2cdd2020c130df36ba1a319a2290c2cba0b9987", checked := Try.checked }
namespace Rows
def none {H : Type} : Left H := { results := [], args := [] }

/-- 'dyelaw1.ChangesAreBounded': WHATEVER THE INPUT: true; the input reads as it did. -/
def changesAreBoundedSpec : ChangeSpec := { name := "changesAreBounded", fn := fun _ => fun
  | [d1, d2] => { results := [.lit (.bool true)], args := [d1, d2] }
  | _ => none }
def changesAreBoundedRow : OpenClaim := { program := "ytplfeaikjgfhcaa", sum := "c8d01156ed18b5beef152370b2cdd2020c130df36ba1a319a2290c2cba0b9987", func := "dyehouse/dyelaw1.ChangesAreBounded", spec := "changesAreBounded", inPlace := ["math.Float32frombits", "math.Float32bits"], unfollowed := true, recurses := true, plainKeys := false, apart := false }
def ChangesAreBoundedSaid : Prop := changesAreBoundedRow.holds Try.pinned (OpenSpec.ofChange changesAreBoundedSpec)

/-- ITS FALSE NEIGHBOUR: 'it returns false'. Refute it at one input. -/
def changesAreBoundedWrong : ChangeSpec := { name := "changesAreBounded", fn := fun _ => fun
  | [d1, d2] => { results := [.lit (.bool false)], args := [d1, d2] }
  | _ => none }
def ChangesAreBoundedWrongFalsely : Prop := changesAreBoundedRow.holds Try.pinned (OpenSpec.ofChange changesAreBoundedWrong)

/-- 'dyelaw1.TotalsMatch': WHATEVER THE INPUT: true; the input reads as it did. -/
def totalsMatchSpec : ChangeSpec := { name := "totalsMatch", fn := fun _ => fun
  | [d] => { results := [.lit (.bool true)], args := [d] }
  | _ => none }
def totalsMatchRow : OpenClaim := { program := "ytplfeaikjgfhcaa", sum := "c8d01156ed18b5beef152370b2cdd2020c130df36ba1a319a2290c2cba0b9987", func := "dyehouse/dyelaw1.TotalsMatch", spec := "totalsMatch", inPlace := ["math.Float32frombits", "math.Float32bits"], unfollowed := true, recurses := true, plainKeys := false, apart := false }
def TotalsMatchSaid : Prop := totalsMatchRow.holds Try.pinned (OpenSpec.ofChange totalsMatchSpec)

/-- ITS FALSE NEIGHBOUR: 'it returns false'. Refute it at one input. -/
def totalsMatchWrong : ChangeSpec := { name := "totalsMatch", fn := fun _ => fun
  | [d] => { results := [.lit (.bool false)], args := [d] }
  | _ => none }
def TotalsMatchWrongFalsely : Prop := totalsMatchRow.holds Try.pinned (OpenSpec.ofChange totalsMatchWrong)

/-- 'dyelaw1.PlanesMatch': WHATEVER THE INPUT: true; the input reads as it did. -/
def planesMatchSpec : ChangeSpec := { name := "planesMatch", fn := fun _ => fun
  | [d1, d2, d3, d4] => { results := [.lit (.bool true)], args := [d1, d2, d3, d4] }
  | _ => none }
def planesMatchRow : OpenClaim := { program := "ytplfeaikjgfhcaa", sum := "c8d01156ed18b5beef152370b2cdd2020c130df36ba1a319a2290c2cba0b9987", func := "dyehouse/dyelaw1.PlanesMatch", spec := "planesMatch", inPlace := ["math.Float32frombits", "math.Float32bits"], unfollowed := true, recurses := true, plainKeys := false, apart := false }
def PlanesMatchSaid : Prop := planesMatchRow.holds Try.pinned (OpenSpec.ofChange planesMatchSpec)

/-- ITS FALSE NEIGHBOUR: 'it returns false'. Refute it at one input. -/
def planesMatchWrong : ChangeSpec := { name := "planesMatch", fn := fun _ => fun
  | [d1, d2, d3, d4] => { results := [.lit (.bool false)], args := [d1, d2, d3, d4] }
  | _ => none }
def PlanesMatchWrongFalsely : Prop := planesMatchRow.holds Try.pinned (OpenSpec.ofChange planesMatchWrong)

/-- 'dyelaw1.RegionsMatch': WHATEVER THE INPUT: true; the input reads as it did. -/
def regionsMatchSpec : ChangeSpec := { name := "regionsMatch", fn := fun _ => fun
  | [d1, d2, d3, d4] => { results := [.lit (.bool true)], args := [d1, d2, d3, d4] }
  | _ => none }
def regionsMatchRow : OpenClaim := { program := "ytplfeaikjgfhcaa", sum := "c8d01156ed18b5beef152370b2cdd2020c130df36ba1a319a2290c2cba0b9987", func := "dyehouse/dyelaw1.RegionsMatch", spec := "regionsMatch", inPlace := ["math.Float32frombits", "math.Float32bits"], unfollowed := true, recurses := true, plainKeys := false, apart := false }
def RegionsMatchSaid : Prop := regionsMatchRow.holds Try.pinned (OpenSpec.ofChange regionsMatchSpec)

/-- ITS FALSE NEIGHBOUR: 'it returns false'. Refute it at one input. -/
def regionsMatchWrong : ChangeSpec := { name := "regionsMatch", fn := fun _ => fun
  | [d1, d2, d3, d4] => { results := [.lit (.bool false)], args := [d1, d2, d3, d4] }
  | _ => none }
def RegionsMatchWrongFalsely : Prop := regionsMatchRow.holds Try.pinned (OpenSpec.ofChange regionsMatchWrong)

/-- 'dyelaw1.RampsMatch': WHATEVER THE INPUT: true; the input reads as it did. -/
def rampsMatchSpec : ChangeSpec := { name := "rampsMatch", fn := fun _ => fun
  | [d1, d2, d3] => { results := [.lit (.bool true)], args := [d1, d2, d3] }
  | _ => none }
def rampsMatchRow : OpenClaim := { program := "ytplfeaikjgfhcaa", sum := "c8d01156ed18b5beef152370b2cdd2020c130df36ba1a319a2290c2cba0b9987", func := "dyehouse/dyelaw1.RampsMatch", spec := "rampsMatch", inPlace := ["math.Float32frombits", "math.Float32bits"], unfollowed := true, recurses := true, plainKeys := false, apart := false }
def RampsMatchSaid : Prop := rampsMatchRow.holds Try.pinned (OpenSpec.ofChange rampsMatchSpec)

/-- ITS FALSE NEIGHBOUR: 'it returns false'. Refute it at one input. -/
def rampsMatchWrong : ChangeSpec := { name := "rampsMatch", fn := fun _ => fun
  | [d1, d2, d3] => { results := [.lit (.bool false)], args := [d1, d2, d3] }
  | _ => none }
def RampsMatchWrongFalsely : Prop := rampsMatchRow.holds Try.pinned (OpenSpec.ofChange rampsMatchWrong)

/-- 'dyelaw1.FramesMix': WHATEVER THE INPUT: true; the input reads as it did. -/
def framesMixSpec : ChangeSpec := { name := "framesMix", fn := fun _ => fun
  | [d1, d2, d3, d4, d5] => { results := [.lit (.bool true)], args := [d1, d2, d3, d4, d5] }
  | _ => none }
def framesMixRow : OpenClaim := { program := "ytplfeaikjgfhcaa", sum := "c8d01156ed18b5beef152370b2cdd2020c130df36ba1a319a2290c2cba0b9987", func := "dyehouse/dyelaw1.FramesMix", spec := "framesMix", inPlace := ["math.Float32frombits", "math.Float32bits"], unfollowed := true, recurses := true, plainKeys := false, apart := false }
def FramesMixSaid : Prop := framesMixRow.holds Try.pinned (OpenSpec.ofChange framesMixSpec)

/-- ITS FALSE NEIGHBOUR: 'it returns false'. Refute it at one input. -/
def framesMixWrong : ChangeSpec := { name := "framesMix", fn := fun _ => fun
  | [d1, d2, d3, d4, d5] => { results := [.lit (.bool false)], args := [d1, d2, d3, d4, d5] }
  | _ => none }
def FramesMixWrongFalsely : Prop := framesMixRow.holds Try.pinned (OpenSpec.ofChange framesMixWrong)

/-- 'dyelaw1.MattesOpen': WHATEVER THE INPUT: true; the input reads as it did. -/
def mattesOpenSpec : ChangeSpec := { name := "mattesOpen", fn := fun _ => fun
  | [d1, d2, d3] => { results := [.lit (.bool true)], args := [d1, d2, d3] }
  | _ => none }
def mattesOpenRow : OpenClaim := { program := "ytplfeaikjgfhcaa", sum := "c8d01156ed18b5beef152370b2cdd2020c130df36ba1a319a2290c2cba0b9987", func := "dyehouse/dyelaw1.MattesOpen", spec := "mattesOpen", inPlace := ["math.Float32frombits", "math.Float32bits"], unfollowed := true, recurses := true, plainKeys := false, apart := false }
def MattesOpenSaid : Prop := mattesOpenRow.holds Try.pinned (OpenSpec.ofChange mattesOpenSpec)

/-- ITS FALSE NEIGHBOUR: 'it returns false'. Refute it at one input. -/
def mattesOpenWrong : ChangeSpec := { name := "mattesOpen", fn := fun _ => fun
  | [d1, d2, d3] => { results := [.lit (.bool false)], args := [d1, d2, d3] }
  | _ => none }
def MattesOpenWrongFalsely : Prop := mattesOpenRow.holds Try.pinned (OpenSpec.ofChange mattesOpenWrong)

/-- 'dyelaw1.PixelsCombine': WHATEVER THE INPUT: true; the input reads as it did. -/
def pixelsCombineSpec : ChangeSpec := { name := "pixelsCombine", fn := fun _ => fun
  | [d1, d2, d3, d4, d5, d6] => { results := [.lit (.bool true)], args := [d1, d2, d3, d4, d5, d6] }
  | _ => none }
def pixelsCombineRow : OpenClaim := { program := "ytplfeaikjgfhcaa", sum := "c8d01156ed18b5beef152370b2cdd2020c130df36ba1a319a2290c2cba0b9987", func := "dyehouse/dyelaw1.PixelsCombine", spec := "pixelsCombine", inPlace := ["math.Float32frombits", "math.Float32bits"], unfollowed := true, recurses := true, plainKeys := false, apart := false }
def PixelsCombineSaid : Prop := pixelsCombineRow.holds Try.pinned (OpenSpec.ofChange pixelsCombineSpec)

/-- ITS FALSE NEIGHBOUR: 'it returns false'. Refute it at one input. -/
def pixelsCombineWrong : ChangeSpec := { name := "pixelsCombine", fn := fun _ => fun
  | [d1, d2, d3, d4, d5, d6] => { results := [.lit (.bool false)], args := [d1, d2, d3, d4, d5, d6] }
  | _ => none }
def PixelsCombineWrongFalsely : Prop := pixelsCombineRow.holds Try.pinned (OpenSpec.ofChange pixelsCombineWrong)

/-- 'dyelaw1.CurvesMatch': WHATEVER THE INPUT: true; the input reads as it did. -/
def curvesMatchSpec : ChangeSpec := { name := "curvesMatch", fn := fun _ => fun
  | [d1, d2] => { results := [.lit (.bool true)], args := [d1, d2] }
  | _ => none }
def curvesMatchRow : OpenClaim := { program := "ytplfeaikjgfhcaa", sum := "c8d01156ed18b5beef152370b2cdd2020c130df36ba1a319a2290c2cba0b9987", func := "dyehouse/dyelaw1.CurvesMatch", spec := "curvesMatch", inPlace := ["math.Float32frombits", "math.Float32bits"], unfollowed := true, recurses := true, plainKeys := false, apart := false }
def CurvesMatchSaid : Prop := curvesMatchRow.holds Try.pinned (OpenSpec.ofChange curvesMatchSpec)

/-- ITS FALSE NEIGHBOUR: 'it returns false'. Refute it at one input. -/
def curvesMatchWrong : ChangeSpec := { name := "curvesMatch", fn := fun _ => fun
  | [d1, d2] => { results := [.lit (.bool false)], args := [d1, d2] }
  | _ => none }
def CurvesMatchWrongFalsely : Prop := curvesMatchRow.holds Try.pinned (OpenSpec.ofChange curvesMatchWrong)

/-- 'dyelaw1.SizesMatch': WHATEVER THE INPUT: true; the input reads as it did. -/
def sizesMatchSpec : ChangeSpec := { name := "sizesMatch", fn := fun _ => fun
  | [d1, d2, d3, d4] => { results := [.lit (.bool true)], args := [d1, d2, d3, d4] }
  | _ => none }
def sizesMatchRow : OpenClaim := { program := "ytplfeaikjgfhcaa", sum := "c8d01156ed18b5beef152370b2cdd2020c130df36ba1a319a2290c2cba0b9987", func := "dyehouse/dyelaw1.SizesMatch", spec := "sizesMatch", inPlace := ["math.Float32frombits", "math.Float32bits"], unfollowed := true, recurses := true, plainKeys := false, apart := false }
def SizesMatchSaid : Prop := sizesMatchRow.holds Try.pinned (OpenSpec.ofChange sizesMatchSpec)

/-- ITS FALSE NEIGHBOUR: 'it returns false'. Refute it at one input. -/
def sizesMatchWrong : ChangeSpec := { name := "sizesMatch", fn := fun _ => fun
  | [d1, d2, d3, d4] => { results := [.lit (.bool false)], args := [d1, d2, d3, d4] }
  | _ => none }
def SizesMatchWrongFalsely : Prop := sizesMatchRow.holds Try.pinned (OpenSpec.ofChange sizesMatchWrong)

/-- 'dyelaw1.ColoursMatch': WHATEVER THE INPUT: true; the input reads as it did. -/
def coloursMatchSpec : ChangeSpec := { name := "coloursMatch", fn := fun _ => fun
  | [d1, d2, d3, d4, d5] => { results := [.lit (.bool true)], args := [d1, d2, d3, d4, d5] }
  | _ => none }
def coloursMatchRow : OpenClaim := { program := "ytplfeaikjgfhcaa", sum := "c8d01156ed18b5beef152370b2cdd2020c130df36ba1a319a2290c2cba0b9987", func := "dyehouse/dyelaw1.ColoursMatch", spec := "coloursMatch", inPlace := ["math.Float32frombits", "math.Float32bits"], unfollowed := true, recurses := true, plainKeys := false, apart := false }
def ColoursMatchSaid : Prop := coloursMatchRow.holds Try.pinned (OpenSpec.ofChange coloursMatchSpec)

/-- ITS FALSE NEIGHBOUR: 'it returns false'. Refute it at one input. -/
def coloursMatchWrong : ChangeSpec := { name := "coloursMatch", fn := fun _ => fun
  | [d1, d2, d3, d4, d5] => { results := [.lit (.bool false)], args := [d1, d2, d3, d4, d5] }
  | _ => none }
def ColoursMatchWrongFalsely : Prop := coloursMatchRow.holds Try.pinned (OpenSpec.ofChange coloursMatchWrong)

/-- 'dyelaw1.TracksFind': WHATEVER THE INPUT: true; the input reads as it did. -/
def tracksFindSpec : ChangeSpec := { name := "tracksFind", fn := fun _ => fun
  | [d1, d2, d3] => { results := [.lit (.bool true)], args := [d1, d2, d3] }
  | _ => none }
def tracksFindRow : OpenClaim := { program := "ytplfeaikjgfhcaa", sum := "c8d01156ed18b5beef152370b2cdd2020c130df36ba1a319a2290c2cba0b9987", func := "dyehouse/dyelaw1.TracksFind", spec := "tracksFind", inPlace := ["math.Float32frombits", "math.Float32bits", "math.Float64bits", "math.Float64frombits"], unfollowed := true, recurses := true, plainKeys := false, apart := false }
def TracksFindSaid : Prop := tracksFindRow.holds Try.pinned (OpenSpec.ofChange tracksFindSpec)

/-- ITS FALSE NEIGHBOUR: 'it returns false'. Refute it at one input. -/
def tracksFindWrong : ChangeSpec := { name := "tracksFind", fn := fun _ => fun
  | [d1, d2, d3] => { results := [.lit (.bool false)], args := [d1, d2, d3] }
  | _ => none }
def TracksFindWrongFalsely : Prop := tracksFindRow.holds Try.pinned (OpenSpec.ofChange tracksFindWrong)

/-- 'dyelaw1.BinsMatch': WHATEVER THE INPUT: true; the input reads as it did. -/
def binsMatchSpec : ChangeSpec := { name := "binsMatch", fn := fun _ => fun
  | [d1, d2] => { results := [.lit (.bool true)], args := [d1, d2] }
  | _ => none }
def binsMatchRow : OpenClaim := { program := "ytplfeaikjgfhcaa", sum := "c8d01156ed18b5beef152370b2cdd2020c130df36ba1a319a2290c2cba0b9987", func := "dyehouse/dyelaw1.BinsMatch", spec := "binsMatch", inPlace := ["math.Float32frombits", "math.Float32bits", "math.archFloor", "math.Float64bits", "math.Float64frombits", "math.archTrunc"], plainKeys := false, apart := false }
def BinsMatchSaid : Prop := binsMatchRow.holds Try.pinned (OpenSpec.ofChange binsMatchSpec)

/-- ITS FALSE NEIGHBOUR: 'it returns false'. Refute it at one input. -/
def binsMatchWrong : ChangeSpec := { name := "binsMatch", fn := fun _ => fun
  | [d1, d2] => { results := [.lit (.bool false)], args := [d1, d2] }
  | _ => none }
def BinsMatchWrongFalsely : Prop := binsMatchRow.holds Try.pinned (OpenSpec.ofChange binsMatchWrong)

/-- 'dyelaw1.MattesMatch': WHATEVER THE INPUT: true; the input reads as it did. -/
def mattesMatchSpec : ChangeSpec := { name := "mattesMatch", fn := fun _ => fun
  | [d1, d2, d3, d4, d5] => { results := [.lit (.bool true)], args := [d1, d2, d3, d4, d5] }
  | _ => none }
def mattesMatchRow : OpenClaim := { program := "ytplfeaikjgfhcaa", sum := "c8d01156ed18b5beef152370b2cdd2020c130df36ba1a319a2290c2cba0b9987", func := "dyehouse/dyelaw1.MattesMatch", spec := "mattesMatch", inPlace := ["math.Float32frombits", "math.Float32bits"], unfollowed := true, recurses := true, plainKeys := false, apart := false }
def MattesMatchSaid : Prop := mattesMatchRow.holds Try.pinned (OpenSpec.ofChange mattesMatchSpec)

/-- ITS FALSE NEIGHBOUR: 'it returns false'. Refute it at one input. -/
def mattesMatchWrong : ChangeSpec := { name := "mattesMatch", fn := fun _ => fun
  | [d1, d2, d3, d4, d5] => { results := [.lit (.bool false)], args := [d1, d2, d3, d4, d5] }
  | _ => none }
def MattesMatchWrongFalsely : Prop := mattesMatchRow.holds Try.pinned (OpenSpec.ofChange mattesMatchWrong)

/-- 'dyelaw1.FramesAreCut': WHATEVER THE INPUT: true; the input reads as it did. -/
def framesAreCutSpec : ChangeSpec := { name := "framesAreCut", fn := fun _ => fun
  | [d1, d2, d3, d4, d5, d6] => { results := [.lit (.bool true)], args := [d1, d2, d3, d4, d5, d6] }
  | _ => none }
def framesAreCutRow : OpenClaim := { program := "ytplfeaikjgfhcaa", sum := "c8d01156ed18b5beef152370b2cdd2020c130df36ba1a319a2290c2cba0b9987", func := "dyehouse/dyelaw1.FramesAreCut", spec := "framesAreCut", inPlace := ["math.Float32frombits", "math.Float32bits"], unfollowed := true, recurses := true, plainKeys := false, apart := false }
def FramesAreCutSaid : Prop := framesAreCutRow.holds Try.pinned (OpenSpec.ofChange framesAreCutSpec)

/-- ITS FALSE NEIGHBOUR: 'it returns false'. Refute it at one input. -/
def framesAreCutWrong : ChangeSpec := { name := "framesAreCut", fn := fun _ => fun
  | [d1, d2, d3, d4, d5, d6] => { results := [.lit (.bool false)], args := [d1, d2, d3, d4, d5, d6] }
  | _ => none }
def FramesAreCutWrongFalsely : Prop := framesAreCutRow.holds Try.pinned (OpenSpec.ofChange framesAreCutWrong)

/-- 'dyelaw1.FramesJoin': WHATEVER THE INPUT: true; the input reads as it did. -/
def framesJoinSpec : ChangeSpec := { name := "framesJoin", fn := fun _ => fun
  | [d1, d2, d3, d4, d5] => { results := [.lit (.bool true)], args := [d1, d2, d3, d4, d5] }
  | _ => none }
def framesJoinRow : OpenClaim := { program := "ytplfeaikjgfhcaa", sum := "c8d01156ed18b5beef152370b2cdd2020c130df36ba1a319a2290c2cba0b9987", func := "dyehouse/dyelaw1.FramesJoin", spec := "framesJoin", inPlace := ["math.Float32frombits", "math.Float32bits"], unfollowed := true, recurses := true, plainKeys := false, apart := false }
def FramesJoinSaid : Prop := framesJoinRow.holds Try.pinned (OpenSpec.ofChange framesJoinSpec)

/-- ITS FALSE NEIGHBOUR: 'it returns false'. Refute it at one input. -/
def framesJoinWrong : ChangeSpec := { name := "framesJoin", fn := fun _ => fun
  | [d1, d2, d3, d4, d5] => { results := [.lit (.bool false)], args := [d1, d2, d3, d4, d5] }
  | _ => none }
def FramesJoinWrongFalsely : Prop := framesJoinRow.holds Try.pinned (OpenSpec.ofChange framesJoinWrong)

/- THE SECOND FORM. 'bulk': how many values and letters a reading holds, each counted each time it is reached (what is shared counts as often as it is met; a slice's spare places count too). A statement '..UptoSaid' is the law's where the arguments, and the package variables that the reading takes, are together of bulk at most 1048576: NARROWER than '..Said'. Prove '..Said' where nothing that the law and all that it calls make is longer than what came in: it says more and counts as full. Else prove '..UptoSaid'. A law counts once. -/
mutual
def uptoBulk {H : Type} : DataW H → Nat
  | .lit (.string bytes) => bytes.length + 1
  | .lit _ => 1
  | .nil => 1
  | .ptr d => uptoBulk d + 1
  | .slice elems spare => uptoBulkAll elems + uptoBulkAll spare + 1
  | .agg parts => uptoBulkAll parts + 1
  | .iface _ d => uptoBulk d + 1
  | .map entries => uptoBulkEntries entries + 1
  | .held _ => 1
def uptoBulkAll {H : Type} : List (DataW H) → Nat
  | [] => 0
  | d :: r => uptoBulk d + uptoBulkAll r
def uptoBulkEntries {H : Type} : List (Lit × DataW H) → Nat
  | [] => 0
  | x :: r => uptoBulkEntry x + uptoBulkEntries r
def uptoBulkEntry {H : Type} : Lit × DataW H → Nat
  | (.string bytes, d) => bytes.length + uptoBulk d + 1
  | (_, d) => uptoBulk d + 1
 end
def uptoSmall : (H : Type) → List (DataW H) → Bool := fun _ ds => decide (uptoBulkAll ds ≤ 1048576)
def OpenSpec.upto (s : _root_.Go.ChangeSpec) : _root_.Go.OpenSpec := { _root_.Go.OpenSpec.ofChange s with cond := some uptoSmall }

/-- 'dyelaw1.ChangesAreBounded', WHERE WHAT IT READS IS OF BULK AT MOST 1048576: true; the input reads as it did. -/
def changesAreBoundedUptoRow : OpenClaim := { program := "ytplfeaikjgfhcaa", sum := "c8d01156ed18b5beef152370b2cdd2020c130df36ba1a319a2290c2cba0b9987", func := "dyehouse/dyelaw1.ChangesAreBounded", spec := "changesAreBounded", inPlace := ["math.Float32frombits", "math.Float32bits"], unfollowed := true, recurses := true, plainKeys := false, apart := false, narrowed := true }
def ChangesAreBoundedUptoSaid : Prop := changesAreBoundedUptoRow.holds Try.pinned (OpenSpec.upto changesAreBoundedSpec)

/-- 'dyelaw1.TotalsMatch', WHERE WHAT IT READS IS OF BULK AT MOST 1048576: true; the input reads as it did. -/
def totalsMatchUptoRow : OpenClaim := { program := "ytplfeaikjgfhcaa", sum := "c8d01156ed18b5beef152370b2cdd2020c130df36ba1a319a2290c2cba0b9987", func := "dyehouse/dyelaw1.TotalsMatch", spec := "totalsMatch", inPlace := ["math.Float32frombits", "math.Float32bits"], unfollowed := true, recurses := true, plainKeys := false, apart := false, narrowed := true }
def TotalsMatchUptoSaid : Prop := totalsMatchUptoRow.holds Try.pinned (OpenSpec.upto totalsMatchSpec)

/-- 'dyelaw1.PlanesMatch', WHERE WHAT IT READS IS OF BULK AT MOST 1048576: true; the input reads as it did. -/
def planesMatchUptoRow : OpenClaim := { program := "ytplfeaikjgfhcaa", sum := "c8d01156ed18b5beef152370b2cdd2020c130df36ba1a319a2290c2cba0b9987", func := "dyehouse/dyelaw1.PlanesMatch", spec := "planesMatch", inPlace := ["math.Float32frombits", "math.Float32bits"], unfollowed := true, recurses := true, plainKeys := false, apart := false, narrowed := true }
def PlanesMatchUptoSaid : Prop := planesMatchUptoRow.holds Try.pinned (OpenSpec.upto planesMatchSpec)

/-- 'dyelaw1.RegionsMatch', WHERE WHAT IT READS IS OF BULK AT MOST 1048576: true; the input reads as it did. -/
def regionsMatchUptoRow : OpenClaim := { program := "ytplfeaikjgfhcaa", sum := "c8d01156ed18b5beef152370b2cdd2020c130df36ba1a319a2290c2cba0b9987", func := "dyehouse/dyelaw1.RegionsMatch", spec := "regionsMatch", inPlace := ["math.Float32frombits", "math.Float32bits"], unfollowed := true, recurses := true, plainKeys := false, apart := false, narrowed := true }
def RegionsMatchUptoSaid : Prop := regionsMatchUptoRow.holds Try.pinned (OpenSpec.upto regionsMatchSpec)

/-- 'dyelaw1.RampsMatch', WHERE WHAT IT READS IS OF BULK AT MOST 1048576: true; the input reads as it did. -/
def rampsMatchUptoRow : OpenClaim := { program := "ytplfeaikjgfhcaa", sum := "c8d01156ed18b5beef152370b2cdd2020c130df36ba1a319a2290c2cba0b9987", func := "dyehouse/dyelaw1.RampsMatch", spec := "rampsMatch", inPlace := ["math.Float32frombits", "math.Float32bits"], unfollowed := true, recurses := true, plainKeys := false, apart := false, narrowed := true }
def RampsMatchUptoSaid : Prop := rampsMatchUptoRow.holds Try.pinned (OpenSpec.upto rampsMatchSpec)

/-- 'dyelaw1.FramesMix', WHERE WHAT IT READS IS OF BULK AT MOST 1048576: true; the input reads as it did. -/
def framesMixUptoRow : OpenClaim := { program := "ytplfeaikjgfhcaa", sum := "c8d01156ed18b5beef152370b2cdd2020c130df36ba1a319a2290c2cba0b9987", func := "dyehouse/dyelaw1.FramesMix", spec := "framesMix", inPlace := ["math.Float32frombits", "math.Float32bits"], unfollowed := true, recurses := true, plainKeys := false, apart := false, narrowed := true }
def FramesMixUptoSaid : Prop := framesMixUptoRow.holds Try.pinned (OpenSpec.upto framesMixSpec)

/-- 'dyelaw1.MattesOpen', WHERE WHAT IT READS IS OF BULK AT MOST 1048576: true; the input reads as it did. -/
def mattesOpenUptoRow : OpenClaim := { program := "ytplfeaikjgfhcaa", sum := "c8d01156ed18b5beef152370b2cdd2020c130df36ba1a319a2290c2cba0b9987", func := "dyehouse/dyelaw1.MattesOpen", spec := "mattesOpen", inPlace := ["math.Float32frombits", "math.Float32bits"], unfollowed := true, recurses := true, plainKeys := false, apart := false, narrowed := true }
def MattesOpenUptoSaid : Prop := mattesOpenUptoRow.holds Try.pinned (OpenSpec.upto mattesOpenSpec)

/-- 'dyelaw1.PixelsCombine', WHERE WHAT IT READS IS OF BULK AT MOST 1048576: true; the input reads as it did. -/
def pixelsCombineUptoRow : OpenClaim := { program := "ytplfeaikjgfhcaa", sum := "c8d01156ed18b5beef152370b2cdd2020c130df36ba1a319a2290c2cba0b9987", func := "dyehouse/dyelaw1.PixelsCombine", spec := "pixelsCombine", inPlace := ["math.Float32frombits", "math.Float32bits"], unfollowed := true, recurses := true, plainKeys := false, apart := false, narrowed := true }
def PixelsCombineUptoSaid : Prop := pixelsCombineUptoRow.holds Try.pinned (OpenSpec.upto pixelsCombineSpec)

/-- 'dyelaw1.CurvesMatch', WHERE WHAT IT READS IS OF BULK AT MOST 1048576: true; the input reads as it did. -/
def curvesMatchUptoRow : OpenClaim := { program := "ytplfeaikjgfhcaa", sum := "c8d01156ed18b5beef152370b2cdd2020c130df36ba1a319a2290c2cba0b9987", func := "dyehouse/dyelaw1.CurvesMatch", spec := "curvesMatch", inPlace := ["math.Float32frombits", "math.Float32bits"], unfollowed := true, recurses := true, plainKeys := false, apart := false, narrowed := true }
def CurvesMatchUptoSaid : Prop := curvesMatchUptoRow.holds Try.pinned (OpenSpec.upto curvesMatchSpec)

/-- 'dyelaw1.SizesMatch', WHERE WHAT IT READS IS OF BULK AT MOST 1048576: true; the input reads as it did. -/
def sizesMatchUptoRow : OpenClaim := { program := "ytplfeaikjgfhcaa", sum := "c8d01156ed18b5beef152370b2cdd2020c130df36ba1a319a2290c2cba0b9987", func := "dyehouse/dyelaw1.SizesMatch", spec := "sizesMatch", inPlace := ["math.Float32frombits", "math.Float32bits"], unfollowed := true, recurses := true, plainKeys := false, apart := false, narrowed := true }
def SizesMatchUptoSaid : Prop := sizesMatchUptoRow.holds Try.pinned (OpenSpec.upto sizesMatchSpec)

/-- 'dyelaw1.ColoursMatch', WHERE WHAT IT READS IS OF BULK AT MOST 1048576: true; the input reads as it did. -/
def coloursMatchUptoRow : OpenClaim := { program := "ytplfeaikjgfhcaa", sum := "c8d01156ed18b5beef152370b2cdd2020c130df36ba1a319a2290c2cba0b9987", func := "dyehouse/dyelaw1.ColoursMatch", spec := "coloursMatch", inPlace := ["math.Float32frombits", "math.Float32bits"], unfollowed := true, recurses := true, plainKeys := false, apart := false, narrowed := true }
def ColoursMatchUptoSaid : Prop := coloursMatchUptoRow.holds Try.pinned (OpenSpec.upto coloursMatchSpec)

/-- 'dyelaw1.TracksFind', WHERE WHAT IT READS IS OF BULK AT MOST 1048576: true; the input reads as it did. -/
def tracksFindUptoRow : OpenClaim := { program := "ytplfeaikjgfhcaa", sum := "c8d01156ed18b5beef152370b2cdd2020c130df36ba1a319a2290c2cba0b9987", func := "dyehouse/dyelaw1.TracksFind", spec := "tracksFind", inPlace := ["math.Float32frombits", "math.Float32bits", "math.Float64bits", "math.Float64frombits"], unfollowed := true, recurses := true, plainKeys := false, apart := false, narrowed := true }
def TracksFindUptoSaid : Prop := tracksFindUptoRow.holds Try.pinned (OpenSpec.upto tracksFindSpec)

/-- 'dyelaw1.BinsMatch', WHERE WHAT IT READS IS OF BULK AT MOST 1048576: true; the input reads as it did. -/
def binsMatchUptoRow : OpenClaim := { program := "ytplfeaikjgfhcaa", sum := "c8d01156ed18b5beef152370b2cdd2020c130df36ba1a319a2290c2cba0b9987", func := "dyehouse/dyelaw1.BinsMatch", spec := "binsMatch", inPlace := ["math.Float32frombits", "math.Float32bits", "math.archFloor", "math.Float64bits", "math.Float64frombits", "math.archTrunc"], plainKeys := false, apart := false, narrowed := true }
def BinsMatchUptoSaid : Prop := binsMatchUptoRow.holds Try.pinned (OpenSpec.upto binsMatchSpec)

/-- 'dyelaw1.MattesMatch', WHERE WHAT IT READS IS OF BULK AT MOST 1048576: true; the input reads as it did. -/
def mattesMatchUptoRow : OpenClaim := { program := "ytplfeaikjgfhcaa", sum := "c8d01156ed18b5beef152370b2cdd2020c130df36ba1a319a2290c2cba0b9987", func := "dyehouse/dyelaw1.MattesMatch", spec := "mattesMatch", inPlace := ["math.Float32frombits", "math.Float32bits"], unfollowed := true, recurses := true, plainKeys := false, apart := false, narrowed := true }
def MattesMatchUptoSaid : Prop := mattesMatchUptoRow.holds Try.pinned (OpenSpec.upto mattesMatchSpec)

/-- 'dyelaw1.FramesAreCut', WHERE WHAT IT READS IS OF BULK AT MOST 1048576: true; the input reads as it did. -/
def framesAreCutUptoRow : OpenClaim := { program := "ytplfeaikjgfhcaa", sum := "c8d01156ed18b5beef152370b2cdd2020c130df36ba1a319a2290c2cba0b9987", func := "dyehouse/dyelaw1.FramesAreCut", spec := "framesAreCut", inPlace := ["math.Float32frombits", "math.Float32bits"], unfollowed := true, recurses := true, plainKeys := false, apart := false, narrowed := true }
def FramesAreCutUptoSaid : Prop := framesAreCutUptoRow.holds Try.pinned (OpenSpec.upto framesAreCutSpec)

/-- 'dyelaw1.FramesJoin', WHERE WHAT IT READS IS OF BULK AT MOST 1048576: true; the input reads as it did. -/
def framesJoinUptoRow : OpenClaim := { program := "ytplfeaikjgfhcaa", sum := "c8d01156ed18b5beef152370b2cdd2020c130df36ba1a319a2290c2cba0b9987", func := "dyehouse/dyelaw1.FramesJoin", spec := "framesJoin", inPlace := ["math.Float32frombits", "math.Float32bits"], unfollowed := true, recurses := true, plainKeys := false, apart := false, narrowed := true }
def FramesJoinUptoSaid : Prop := framesJoinUptoRow.holds Try.pinned (OpenSpec.upto framesJoinSpec)

end Rows
end Go.Proofs.Ytplfeaikjgfhcaa
