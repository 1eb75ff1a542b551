/-
  No cell of these rows narrows 'for every input' (looked for: loops, veiled, ifaces, maps, wideKeys, modest, calm, conditions, laid).
  DERIVED. THE GIVEN ROWS OF THIS SEAT. 21 by the template 'for every input the law returns true; each argument reads behind the call as it read before'; 0 by the template 'total and deterministic' (their statements: YtnabpdengfmeaaaTotals.lean).
  GIVEN WITH THE SEED: the statements are not yours to turn. If you find one false, say at which input.
  Laid BY PROGRAM, IN A SANDBOX (cutbox-rows.mjs): the forced cells as the released guide's own fill.sh prints them over the translation 3c9724ac7bd6efd1… (all of the seat's roots in one cut). By AI agents, Wed Nov 11 2026. No macro, syntax, notation, axiom, sorry.
-/
import Derived.Test.YtnabpdengfmeaaaChecked
import GoSem.Claim
import GoSem.ClaimJoined
import GoSem.ClaimMapViews
import Derived.JoinedTies
import Derived.KernelRfl
namespace Go.Proofs.Ytnabpdengfmeaaa
/- THE CELL 'sum', in the pinned program and in every row, IS THE sha256 OF THE DUMP (.gsa) THAT YtnabpdengfmeaaaProg.lean LOADS. Nothing in Lean hashes anything: it is a label: what it is worth is what the hold of that sum in a sandbox is worth. -/
noncomputable def Try.pinned : Pinned := { name := "ytnabpdengfmeaaa", sum := "3c9724ac7bd6efd1adb91be23db42370d7bbf7018ce973b84387716ee2841f42", checked := Try.checked }
namespace Rows
def none {H : Type} : Left H := { results := [], args := [] }

/-- 'servitorlaw02.SumRight': WHATEVER THE INPUT: true; the input reads as it did. -/
def sumRightSpec : ChangeSpec := { name := "sumRight", fn := fun _ => fun
  | [d1, d2] => { results := [.lit (.bool true)], args := [d1, d2] }
  | _ => none }
def sumRightRow : OpenClaim := { program := "ytnabpdengfmeaaa", sum := "3c9724ac7bd6efd1adb91be23db42370d7bbf7018ce973b84387716ee2841f42", func := "servitor/servitorlaw02.SumRight", spec := "sumRight", apart := false }
def SumRightSaid : Prop := sumRightRow.holds Try.pinned (OpenSpec.ofChange sumRightSpec)

/-- ITS FALSE NEIGHBOUR: 'it returns false'. Refute it at one input. -/
def sumRightWrong : ChangeSpec := { name := "sumRight", fn := fun _ => fun
  | [d1, d2] => { results := [.lit (.bool false)], args := [d1, d2] }
  | _ => none }
def SumRightWrongFalsely : Prop := sumRightRow.holds Try.pinned (OpenSpec.ofChange sumRightWrong)

/-- 'servitorlaw02.SumPieces': WHATEVER THE INPUT: true; the input reads as it did. -/
def sumPiecesSpec : ChangeSpec := { name := "sumPieces", fn := fun _ => fun
  | [d1, d2, d3] => { results := [.lit (.bool true)], args := [d1, d2, d3] }
  | _ => none }
def sumPiecesRow : OpenClaim := { program := "ytnabpdengfmeaaa", sum := "3c9724ac7bd6efd1adb91be23db42370d7bbf7018ce973b84387716ee2841f42", func := "servitor/servitorlaw02.SumPieces", spec := "sumPieces", apart := false }
def SumPiecesSaid : Prop := sumPiecesRow.holds Try.pinned (OpenSpec.ofChange sumPiecesSpec)

/-- ITS FALSE NEIGHBOUR: 'it returns false'. Refute it at one input. -/
def sumPiecesWrong : ChangeSpec := { name := "sumPieces", fn := fun _ => fun
  | [d1, d2, d3] => { results := [.lit (.bool false)], args := [d1, d2, d3] }
  | _ => none }
def SumPiecesWrongFalsely : Prop := sumPiecesRow.holds Try.pinned (OpenSpec.ofChange sumPiecesWrong)

/-- 'servitorlaw02.SumBurst': WHATEVER THE INPUT: true; the input reads as it did. -/
def sumBurstSpec : ChangeSpec := { name := "sumBurst", fn := fun _ => fun
  | [d1, d2, d3, d4, d5, d6] => { results := [.lit (.bool true)], args := [d1, d2, d3, d4, d5, d6] }
  | _ => none }
def sumBurstRow : OpenClaim := { program := "ytnabpdengfmeaaa", sum := "3c9724ac7bd6efd1adb91be23db42370d7bbf7018ce973b84387716ee2841f42", func := "servitor/servitorlaw02.SumBurst", spec := "sumBurst", apart := false }
def SumBurstSaid : Prop := sumBurstRow.holds Try.pinned (OpenSpec.ofChange sumBurstSpec)

/-- ITS FALSE NEIGHBOUR: 'it returns false'. Refute it at one input. -/
def sumBurstWrong : ChangeSpec := { name := "sumBurst", fn := fun _ => fun
  | [d1, d2, d3, d4, d5, d6] => { results := [.lit (.bool false)], args := [d1, d2, d3, d4, d5, d6] }
  | _ => none }
def SumBurstWrongFalsely : Prop := sumBurstRow.holds Try.pinned (OpenSpec.ofChange sumBurstWrong)

/-- 'servitorlaw02.SumOver': WHATEVER THE INPUT: true; the input reads as it did. -/
def sumOverSpec : ChangeSpec := { name := "sumOver", fn := fun _ => fun
  | [d1, d2, d3] => { results := [.lit (.bool true)], args := [d1, d2, d3] }
  | _ => none }
def sumOverRow : OpenClaim := { program := "ytnabpdengfmeaaa", sum := "3c9724ac7bd6efd1adb91be23db42370d7bbf7018ce973b84387716ee2841f42", func := "servitor/servitorlaw02.SumOver", spec := "sumOver", apart := false }
def SumOverSaid : Prop := sumOverRow.holds Try.pinned (OpenSpec.ofChange sumOverSpec)

/-- ITS FALSE NEIGHBOUR: 'it returns false'. Refute it at one input. -/
def sumOverWrong : ChangeSpec := { name := "sumOver", fn := fun _ => fun
  | [d1, d2, d3] => { results := [.lit (.bool false)], args := [d1, d2, d3] }
  | _ => none }
def SumOverWrongFalsely : Prop := sumOverRow.holds Try.pinned (OpenSpec.ofChange sumOverWrong)

/-- 'servitorlaw05.BounceSteps': WHATEVER THE INPUT: true; the input reads as it did. -/
def bounceStepsSpec : ChangeSpec := { name := "bounceSteps", fn := fun _ => fun
  | [d1, d2, d3, d4] => { results := [.lit (.bool true)], args := [d1, d2, d3, d4] }
  | _ => none }
def bounceStepsRow : OpenClaim := { program := "ytnabpdengfmeaaa", sum := "3c9724ac7bd6efd1adb91be23db42370d7bbf7018ce973b84387716ee2841f42", func := "servitor/servitorlaw05.BounceSteps", spec := "bounceSteps", apart := false }
def BounceStepsSaid : Prop := bounceStepsRow.holds Try.pinned (OpenSpec.ofChange bounceStepsSpec)

/-- ITS FALSE NEIGHBOUR: 'it returns false'. Refute it at one input. -/
def bounceStepsWrong : ChangeSpec := { name := "bounceSteps", fn := fun _ => fun
  | [d1, d2, d3, d4] => { results := [.lit (.bool false)], args := [d1, d2, d3, d4] }
  | _ => none }
def BounceStepsWrongFalsely : Prop := bounceStepsRow.holds Try.pinned (OpenSpec.ofChange bounceStepsWrong)

/-- 'servitorlaw05.BounceSettles': WHATEVER THE INPUT: true; the input reads as it did. -/
def bounceSettlesSpec : ChangeSpec := { name := "bounceSettles", fn := fun _ => fun
  | [d1, d2, d3] => { results := [.lit (.bool true)], args := [d1, d2, d3] }
  | _ => none }
def bounceSettlesRow : OpenClaim := { program := "ytnabpdengfmeaaa", sum := "3c9724ac7bd6efd1adb91be23db42370d7bbf7018ce973b84387716ee2841f42", func := "servitor/servitorlaw05.BounceSettles", spec := "bounceSettles", apart := false }
def BounceSettlesSaid : Prop := bounceSettlesRow.holds Try.pinned (OpenSpec.ofChange bounceSettlesSpec)

/-- ITS FALSE NEIGHBOUR: 'it returns false'. Refute it at one input. -/
def bounceSettlesWrong : ChangeSpec := { name := "bounceSettles", fn := fun _ => fun
  | [d1, d2, d3] => { results := [.lit (.bool false)], args := [d1, d2, d3] }
  | _ => none }
def BounceSettlesWrongFalsely : Prop := bounceSettlesRow.holds Try.pinned (OpenSpec.ofChange bounceSettlesWrong)

/-- 'servitorlaw05.BounceHolds': WHATEVER THE INPUT: true; the input reads as it did. -/
def bounceHoldsSpec : ChangeSpec := { name := "bounceHolds", fn := fun _ => fun
  | [d1, d2, d3] => { results := [.lit (.bool true)], args := [d1, d2, d3] }
  | _ => none }
def bounceHoldsRow : OpenClaim := { program := "ytnabpdengfmeaaa", sum := "3c9724ac7bd6efd1adb91be23db42370d7bbf7018ce973b84387716ee2841f42", func := "servitor/servitorlaw05.BounceHolds", spec := "bounceHolds", apart := false }
def BounceHoldsSaid : Prop := bounceHoldsRow.holds Try.pinned (OpenSpec.ofChange bounceHoldsSpec)

/-- ITS FALSE NEIGHBOUR: 'it returns false'. Refute it at one input. -/
def bounceHoldsWrong : ChangeSpec := { name := "bounceHolds", fn := fun _ => fun
  | [d1, d2, d3] => { results := [.lit (.bool false)], args := [d1, d2, d3] }
  | _ => none }
def BounceHoldsWrongFalsely : Prop := bounceHoldsRow.holds Try.pinned (OpenSpec.ofChange bounceHoldsWrong)

/-- 'servitorlaw06.WordUp': WHATEVER THE INPUT: true; the input reads as it did. -/
def wordUpSpec : ChangeSpec := { name := "wordUp", fn := fun _ => fun
  | [d1, d2, d3] => { results := [.lit (.bool true)], args := [d1, d2, d3] }
  | _ => none }
def wordUpRow : OpenClaim := { program := "ytnabpdengfmeaaa", sum := "3c9724ac7bd6efd1adb91be23db42370d7bbf7018ce973b84387716ee2841f42", func := "servitor/servitorlaw06.WordUp", spec := "wordUp", apart := false }
def WordUpSaid : Prop := wordUpRow.holds Try.pinned (OpenSpec.ofChange wordUpSpec)

/-- ITS FALSE NEIGHBOUR: 'it returns false'. Refute it at one input. -/
def wordUpWrong : ChangeSpec := { name := "wordUp", fn := fun _ => fun
  | [d1, d2, d3] => { results := [.lit (.bool false)], args := [d1, d2, d3] }
  | _ => none }
def WordUpWrongFalsely : Prop := wordUpRow.holds Try.pinned (OpenSpec.ofChange wordUpWrong)

/-- 'servitorlaw03.FrameSpoilt': WHATEVER THE INPUT: true; the input reads as it did. -/
def frameSpoiltSpec : ChangeSpec := { name := "frameSpoilt", fn := fun _ => fun
  | [d1, d2, d3, d4, d5] => { results := [.lit (.bool true)], args := [d1, d2, d3, d4, d5] }
  | _ => none }
def frameSpoiltRow : OpenClaim := { program := "ytnabpdengfmeaaa", sum := "3c9724ac7bd6efd1adb91be23db42370d7bbf7018ce973b84387716ee2841f42", func := "servitor/servitorlaw03.FrameSpoilt", spec := "frameSpoilt", apart := false }
def FrameSpoiltSaid : Prop := frameSpoiltRow.holds Try.pinned (OpenSpec.ofChange frameSpoiltSpec)

/-- ITS FALSE NEIGHBOUR: 'it returns false'. Refute it at one input. -/
def frameSpoiltWrong : ChangeSpec := { name := "frameSpoilt", fn := fun _ => fun
  | [d1, d2, d3, d4, d5] => { results := [.lit (.bool false)], args := [d1, d2, d3, d4, d5] }
  | _ => none }
def FrameSpoiltWrongFalsely : Prop := frameSpoiltRow.holds Try.pinned (OpenSpec.ofChange frameSpoiltWrong)

/-- 'servitorlaw03.FramePuts': WHATEVER THE INPUT: true; the input reads as it did. -/
def framePutsSpec : ChangeSpec := { name := "framePuts", fn := fun _ => fun
  | [d1, d2] => { results := [.lit (.bool true)], args := [d1, d2] }
  | _ => none }
def framePutsRow : OpenClaim := { program := "ytnabpdengfmeaaa", sum := "3c9724ac7bd6efd1adb91be23db42370d7bbf7018ce973b84387716ee2841f42", func := "servitor/servitorlaw03.FramePuts", spec := "framePuts", apart := false }
def FramePutsSaid : Prop := framePutsRow.holds Try.pinned (OpenSpec.ofChange framePutsSpec)

/-- ITS FALSE NEIGHBOUR: 'it returns false'. Refute it at one input. -/
def framePutsWrong : ChangeSpec := { name := "framePuts", fn := fun _ => fun
  | [d1, d2] => { results := [.lit (.bool false)], args := [d1, d2] }
  | _ => none }
def FramePutsWrongFalsely : Prop := framePutsRow.holds Try.pinned (OpenSpec.ofChange framePutsWrong)

/-- 'servitorlaw03.FrameReads': WHATEVER THE INPUT: true; the input reads as it did. -/
def frameReadsSpec : ChangeSpec := { name := "frameReads", fn := fun _ => fun
  | [d] => { results := [.lit (.bool true)], args := [d] }
  | _ => none }
def frameReadsRow : OpenClaim := { program := "ytnabpdengfmeaaa", sum := "3c9724ac7bd6efd1adb91be23db42370d7bbf7018ce973b84387716ee2841f42", func := "servitor/servitorlaw03.FrameReads", spec := "frameReads", apart := false }
def FrameReadsSaid : Prop := frameReadsRow.holds Try.pinned (OpenSpec.ofChange frameReadsSpec)

/-- ITS FALSE NEIGHBOUR: 'it returns false'. Refute it at one input. -/
def frameReadsWrong : ChangeSpec := { name := "frameReads", fn := fun _ => fun
  | [d] => { results := [.lit (.bool false)], args := [d] }
  | _ => none }
def FrameReadsWrongFalsely : Prop := frameReadsRow.holds Try.pinned (OpenSpec.ofChange frameReadsWrong)

/-- 'servitorlaw03.FrameBack': WHATEVER THE INPUT: true; the input reads as it did. -/
def frameBackSpec : ChangeSpec := { name := "frameBack", fn := fun _ => fun
  | [d1, d2] => { results := [.lit (.bool true)], args := [d1, d2] }
  | _ => none }
def frameBackRow : OpenClaim := { program := "ytnabpdengfmeaaa", sum := "3c9724ac7bd6efd1adb91be23db42370d7bbf7018ce973b84387716ee2841f42", func := "servitor/servitorlaw03.FrameBack", spec := "frameBack", apart := false }
def FrameBackSaid : Prop := frameBackRow.holds Try.pinned (OpenSpec.ofChange frameBackSpec)

/-- ITS FALSE NEIGHBOUR: 'it returns false'. Refute it at one input. -/
def frameBackWrong : ChangeSpec := { name := "frameBack", fn := fun _ => fun
  | [d1, d2] => { results := [.lit (.bool false)], args := [d1, d2] }
  | _ => none }
def FrameBackWrongFalsely : Prop := frameBackRow.holds Try.pinned (OpenSpec.ofChange frameBackWrong)

/-- 'servitorlaw06.WordRight': WHATEVER THE INPUT: true; the input reads as it did. -/
def wordRightSpec : ChangeSpec := { name := "wordRight", fn := fun _ => fun
  | [d1, d2, d3, d4, d5] => { results := [.lit (.bool true)], args := [d1, d2, d3, d4, d5] }
  | _ => none }
def wordRightRow : OpenClaim := { program := "ytnabpdengfmeaaa", sum := "3c9724ac7bd6efd1adb91be23db42370d7bbf7018ce973b84387716ee2841f42", func := "servitor/servitorlaw06.WordRight", spec := "wordRight", apart := false }
def WordRightSaid : Prop := wordRightRow.holds Try.pinned (OpenSpec.ofChange wordRightSpec)

/-- ITS FALSE NEIGHBOUR: 'it returns false'. Refute it at one input. -/
def wordRightWrong : ChangeSpec := { name := "wordRight", fn := fun _ => fun
  | [d1, d2, d3, d4, d5] => { results := [.lit (.bool false)], args := [d1, d2, d3, d4, d5] }
  | _ => none }
def WordRightWrongFalsely : Prop := wordRightRow.holds Try.pinned (OpenSpec.ofChange wordRightWrong)

/-- 'servitorlaw06.WordBack': WHATEVER THE INPUT: true; the input reads as it did. -/
def wordBackSpec : ChangeSpec := { name := "wordBack", fn := fun _ => fun
  | [d1, d2] => { results := [.lit (.bool true)], args := [d1, d2] }
  | _ => none }
def wordBackRow : OpenClaim := { program := "ytnabpdengfmeaaa", sum := "3c9724ac7bd6efd1adb91be23db42370d7bbf7018ce973b84387716ee2841f42", func := "servitor/servitorlaw06.WordBack", spec := "wordBack", apart := false }
def WordBackSaid : Prop := wordBackRow.holds Try.pinned (OpenSpec.ofChange wordBackSpec)

/-- ITS FALSE NEIGHBOUR: 'it returns false'. Refute it at one input. -/
def wordBackWrong : ChangeSpec := { name := "wordBack", fn := fun _ => fun
  | [d1, d2] => { results := [.lit (.bool false)], args := [d1, d2] }
  | _ => none }
def WordBackWrongFalsely : Prop := wordBackRow.holds Try.pinned (OpenSpec.ofChange wordBackWrong)

/-- 'servitorlaw04.WatchRight': WHATEVER THE INPUT: true; the input reads as it did. -/
def watchRightSpec : ChangeSpec := { name := "watchRight", fn := fun _ => fun
  | [d1, d2, d3] => { results := [.lit (.bool true)], args := [d1, d2, d3] }
  | _ => none }
def watchRightRow : OpenClaim := { program := "ytnabpdengfmeaaa", sum := "3c9724ac7bd6efd1adb91be23db42370d7bbf7018ce973b84387716ee2841f42", func := "servitor/servitorlaw04.WatchRight", spec := "watchRight", apart := false }
def WatchRightSaid : Prop := watchRightRow.holds Try.pinned (OpenSpec.ofChange watchRightSpec)

/-- ITS FALSE NEIGHBOUR: 'it returns false'. Refute it at one input. -/
def watchRightWrong : ChangeSpec := { name := "watchRight", fn := fun _ => fun
  | [d1, d2, d3] => { results := [.lit (.bool false)], args := [d1, d2, d3] }
  | _ => none }
def WatchRightWrongFalsely : Prop := watchRightRow.holds Try.pinned (OpenSpec.ofChange watchRightWrong)

/-- 'servitorlaw04.WatchCounts': WHATEVER THE INPUT: true; the input reads as it did. -/
def watchCountsSpec : ChangeSpec := { name := "watchCounts", fn := fun _ => fun
  | [d1, d2] => { results := [.lit (.bool true)], args := [d1, d2] }
  | _ => none }
def watchCountsRow : OpenClaim := { program := "ytnabpdengfmeaaa", sum := "3c9724ac7bd6efd1adb91be23db42370d7bbf7018ce973b84387716ee2841f42", func := "servitor/servitorlaw04.WatchCounts", spec := "watchCounts", apart := false }
def WatchCountsSaid : Prop := watchCountsRow.holds Try.pinned (OpenSpec.ofChange watchCountsSpec)

/-- ITS FALSE NEIGHBOUR: 'it returns false'. Refute it at one input. -/
def watchCountsWrong : ChangeSpec := { name := "watchCounts", fn := fun _ => fun
  | [d1, d2] => { results := [.lit (.bool false)], args := [d1, d2] }
  | _ => none }
def WatchCountsWrongFalsely : Prop := watchCountsRow.holds Try.pinned (OpenSpec.ofChange watchCountsWrong)

/-- 'servitorlaw04.WatchOld': WHATEVER THE INPUT: true; the input reads as it did. -/
def watchOldSpec : ChangeSpec := { name := "watchOld", fn := fun _ => fun
  | [d1, d2, d3] => { results := [.lit (.bool true)], args := [d1, d2, d3] }
  | _ => none }
def watchOldRow : OpenClaim := { program := "ytnabpdengfmeaaa", sum := "3c9724ac7bd6efd1adb91be23db42370d7bbf7018ce973b84387716ee2841f42", func := "servitor/servitorlaw04.WatchOld", spec := "watchOld", apart := false }
def WatchOldSaid : Prop := watchOldRow.holds Try.pinned (OpenSpec.ofChange watchOldSpec)

/-- ITS FALSE NEIGHBOUR: 'it returns false'. Refute it at one input. -/
def watchOldWrong : ChangeSpec := { name := "watchOld", fn := fun _ => fun
  | [d1, d2, d3] => { results := [.lit (.bool false)], args := [d1, d2, d3] }
  | _ => none }
def WatchOldWrongFalsely : Prop := watchOldRow.holds Try.pinned (OpenSpec.ofChange watchOldWrong)

/-- 'servitorlaw07.DriveTakes': WHATEVER THE INPUT: true; the input reads as it did. -/
def driveTakesSpec : ChangeSpec := { name := "driveTakes", fn := fun _ => fun
  | [d1, d2, d3] => { results := [.lit (.bool true)], args := [d1, d2, d3] }
  | _ => none }
def driveTakesRow : OpenClaim := { program := "ytnabpdengfmeaaa", sum := "3c9724ac7bd6efd1adb91be23db42370d7bbf7018ce973b84387716ee2841f42", func := "servitor/servitorlaw07.DriveTakes", spec := "driveTakes", apart := false }
def DriveTakesSaid : Prop := driveTakesRow.holds Try.pinned (OpenSpec.ofChange driveTakesSpec)

/-- ITS FALSE NEIGHBOUR: 'it returns false'. Refute it at one input. -/
def driveTakesWrong : ChangeSpec := { name := "driveTakes", fn := fun _ => fun
  | [d1, d2, d3] => { results := [.lit (.bool false)], args := [d1, d2, d3] }
  | _ => none }
def DriveTakesWrongFalsely : Prop := driveTakesRow.holds Try.pinned (OpenSpec.ofChange driveTakesWrong)

/-- 'servitorlaw07.DriveSpoilt': WHATEVER THE INPUT: true; the input reads as it did. -/
def driveSpoiltSpec : ChangeSpec := { name := "driveSpoilt", fn := fun _ => fun
  | [d1, d2, d3, d4, d5] => { results := [.lit (.bool true)], args := [d1, d2, d3, d4, d5] }
  | _ => none }
def driveSpoiltRow : OpenClaim := { program := "ytnabpdengfmeaaa", sum := "3c9724ac7bd6efd1adb91be23db42370d7bbf7018ce973b84387716ee2841f42", func := "servitor/servitorlaw07.DriveSpoilt", spec := "driveSpoilt", apart := false }
def DriveSpoiltSaid : Prop := driveSpoiltRow.holds Try.pinned (OpenSpec.ofChange driveSpoiltSpec)

/-- ITS FALSE NEIGHBOUR: 'it returns false'. Refute it at one input. -/
def driveSpoiltWrong : ChangeSpec := { name := "driveSpoilt", fn := fun _ => fun
  | [d1, d2, d3, d4, d5] => { results := [.lit (.bool false)], args := [d1, d2, d3, d4, d5] }
  | _ => none }
def DriveSpoiltWrongFalsely : Prop := driveSpoiltRow.holds Try.pinned (OpenSpec.ofChange driveSpoiltWrong)

/-- 'servitorlaw07.DriveTold': WHATEVER THE INPUT: true; the input reads as it did. -/
def driveToldSpec : ChangeSpec := { name := "driveTold", fn := fun _ => fun
  | [d1, d2, d3] => { results := [.lit (.bool true)], args := [d1, d2, d3] }
  | _ => none }
def driveToldRow : OpenClaim := { program := "ytnabpdengfmeaaa", sum := "3c9724ac7bd6efd1adb91be23db42370d7bbf7018ce973b84387716ee2841f42", func := "servitor/servitorlaw07.DriveTold", spec := "driveTold", apart := false }
def DriveToldSaid : Prop := driveToldRow.holds Try.pinned (OpenSpec.ofChange driveToldSpec)

/-- ITS FALSE NEIGHBOUR: 'it returns false'. Refute it at one input. -/
def driveToldWrong : ChangeSpec := { name := "driveTold", fn := fun _ => fun
  | [d1, d2, d3] => { results := [.lit (.bool false)], args := [d1, d2, d3] }
  | _ => none }
def DriveToldWrongFalsely : Prop := driveToldRow.holds Try.pinned (OpenSpec.ofChange driveToldWrong)

/-- 'servitorlaw07.DriveSteps': WHATEVER THE INPUT: true; the input reads as it did. -/
def driveStepsSpec : ChangeSpec := { name := "driveSteps", fn := fun _ => fun
  | [d1, d2, d3, d4, d5, d6, d7] => { results := [.lit (.bool true)], args := [d1, d2, d3, d4, d5, d6, d7] }
  | _ => none }
def driveStepsRow : OpenClaim := { program := "ytnabpdengfmeaaa", sum := "3c9724ac7bd6efd1adb91be23db42370d7bbf7018ce973b84387716ee2841f42", func := "servitor/servitorlaw07.DriveSteps", spec := "driveSteps", apart := false }
def DriveStepsSaid : Prop := driveStepsRow.holds Try.pinned (OpenSpec.ofChange driveStepsSpec)

/-- ITS FALSE NEIGHBOUR: 'it returns false'. Refute it at one input. -/
def driveStepsWrong : ChangeSpec := { name := "driveSteps", fn := fun _ => fun
  | [d1, d2, d3, d4, d5, d6, d7] => { results := [.lit (.bool false)], args := [d1, d2, d3, d4, d5, d6, d7] }
  | _ => none }
def DriveStepsWrongFalsely : Prop := driveStepsRow.holds Try.pinned (OpenSpec.ofChange driveStepsWrong)

/- THE SECOND FORM. 'bulk': how many values and letters a reading holds, each counted each time it is reached (what is shared counts as often as it is met; a slice's spare places count too). A statement '..UptoSaid' is the law's where the arguments, and the package variables that the reading takes, are together of bulk at most 1048576: NARROWER than '..Said'. Prove '..Said' where nothing that the law and all that it calls make is longer than what came in: it says more and counts as full. Else prove '..UptoSaid'. A law counts once. -/
mutual
def uptoBulk {H : Type} : DataW H → Nat
  | .lit (.string bytes) => bytes.length + 1
  | .lit _ => 1
  | .nil => 1
  | .ptr d => uptoBulk d + 1
  | .slice elems spare => uptoBulkAll elems + uptoBulkAll spare + 1
  | .agg parts => uptoBulkAll parts + 1
  | .iface _ d => uptoBulk d + 1
  | .map entries => uptoBulkEntries entries + 1
  | .held _ => 1
def uptoBulkAll {H : Type} : List (DataW H) → Nat
  | [] => 0
  | d :: r => uptoBulk d + uptoBulkAll r
def uptoBulkEntries {H : Type} : List (Lit × DataW H) → Nat
  | [] => 0
  | x :: r => uptoBulkEntry x + uptoBulkEntries r
def uptoBulkEntry {H : Type} : Lit × DataW H → Nat
  | (.string bytes, d) => bytes.length + uptoBulk d + 1
  | (_, d) => uptoBulk d + 1
 end
def uptoSmall : (H : Type) → List (DataW H) → Bool := fun _ ds => decide (uptoBulkAll ds ≤ 1048576)
def OpenSpec.upto (s : _root_.Go.ChangeSpec) : _root_.Go.OpenSpec := { _root_.Go.OpenSpec.ofChange s with cond := some uptoSmall }

/-- 'servitorlaw02.SumRight', WHERE WHAT IT READS IS OF BULK AT MOST 1048576: true; the input reads as it did. -/
def sumRightUptoRow : OpenClaim := { program := "ytnabpdengfmeaaa", sum := "3c9724ac7bd6efd1adb91be23db42370d7bbf7018ce973b84387716ee2841f42", func := "servitor/servitorlaw02.SumRight", spec := "sumRight", apart := false, narrowed := true }
def SumRightUptoSaid : Prop := sumRightUptoRow.holds Try.pinned (OpenSpec.upto sumRightSpec)

/-- 'servitorlaw02.SumPieces', WHERE WHAT IT READS IS OF BULK AT MOST 1048576: true; the input reads as it did. -/
def sumPiecesUptoRow : OpenClaim := { program := "ytnabpdengfmeaaa", sum := "3c9724ac7bd6efd1adb91be23db42370d7bbf7018ce973b84387716ee2841f42", func := "servitor/servitorlaw02.SumPieces", spec := "sumPieces", apart := false, narrowed := true }
def SumPiecesUptoSaid : Prop := sumPiecesUptoRow.holds Try.pinned (OpenSpec.upto sumPiecesSpec)

/-- 'servitorlaw02.SumBurst', WHERE WHAT IT READS IS OF BULK AT MOST 1048576: true; the input reads as it did. -/
def sumBurstUptoRow : OpenClaim := { program := "ytnabpdengfmeaaa", sum := "3c9724ac7bd6efd1adb91be23db42370d7bbf7018ce973b84387716ee2841f42", func := "servitor/servitorlaw02.SumBurst", spec := "sumBurst", apart := false, narrowed := true }
def SumBurstUptoSaid : Prop := sumBurstUptoRow.holds Try.pinned (OpenSpec.upto sumBurstSpec)

/-- 'servitorlaw02.SumOver', WHERE WHAT IT READS IS OF BULK AT MOST 1048576: true; the input reads as it did. -/
def sumOverUptoRow : OpenClaim := { program := "ytnabpdengfmeaaa", sum := "3c9724ac7bd6efd1adb91be23db42370d7bbf7018ce973b84387716ee2841f42", func := "servitor/servitorlaw02.SumOver", spec := "sumOver", apart := false, narrowed := true }
def SumOverUptoSaid : Prop := sumOverUptoRow.holds Try.pinned (OpenSpec.upto sumOverSpec)

/-- 'servitorlaw05.BounceSteps', WHERE WHAT IT READS IS OF BULK AT MOST 1048576: true; the input reads as it did. -/
def bounceStepsUptoRow : OpenClaim := { program := "ytnabpdengfmeaaa", sum := "3c9724ac7bd6efd1adb91be23db42370d7bbf7018ce973b84387716ee2841f42", func := "servitor/servitorlaw05.BounceSteps", spec := "bounceSteps", apart := false, narrowed := true }
def BounceStepsUptoSaid : Prop := bounceStepsUptoRow.holds Try.pinned (OpenSpec.upto bounceStepsSpec)

/-- 'servitorlaw05.BounceSettles', WHERE WHAT IT READS IS OF BULK AT MOST 1048576: true; the input reads as it did. -/
def bounceSettlesUptoRow : OpenClaim := { program := "ytnabpdengfmeaaa", sum := "3c9724ac7bd6efd1adb91be23db42370d7bbf7018ce973b84387716ee2841f42", func := "servitor/servitorlaw05.BounceSettles", spec := "bounceSettles", apart := false, narrowed := true }
def BounceSettlesUptoSaid : Prop := bounceSettlesUptoRow.holds Try.pinned (OpenSpec.upto bounceSettlesSpec)

/-- 'servitorlaw05.BounceHolds', WHERE WHAT IT READS IS OF BULK AT MOST 1048576: true; the input reads as it did. -/
def bounceHoldsUptoRow : OpenClaim := { program := "ytnabpdengfmeaaa", sum := "3c9724ac7bd6efd1adb91be23db42370d7bbf7018ce973b84387716ee2841f42", func := "servitor/servitorlaw05.BounceHolds", spec := "bounceHolds", apart := false, narrowed := true }
def BounceHoldsUptoSaid : Prop := bounceHoldsUptoRow.holds Try.pinned (OpenSpec.upto bounceHoldsSpec)

/-- 'servitorlaw06.WordUp', WHERE WHAT IT READS IS OF BULK AT MOST 1048576: true; the input reads as it did. -/
def wordUpUptoRow : OpenClaim := { program := "ytnabpdengfmeaaa", sum := "3c9724ac7bd6efd1adb91be23db42370d7bbf7018ce973b84387716ee2841f42", func := "servitor/servitorlaw06.WordUp", spec := "wordUp", apart := false, narrowed := true }
def WordUpUptoSaid : Prop := wordUpUptoRow.holds Try.pinned (OpenSpec.upto wordUpSpec)

/-- 'servitorlaw03.FrameSpoilt', WHERE WHAT IT READS IS OF BULK AT MOST 1048576: true; the input reads as it did. -/
def frameSpoiltUptoRow : OpenClaim := { program := "ytnabpdengfmeaaa", sum := "3c9724ac7bd6efd1adb91be23db42370d7bbf7018ce973b84387716ee2841f42", func := "servitor/servitorlaw03.FrameSpoilt", spec := "frameSpoilt", apart := false, narrowed := true }
def FrameSpoiltUptoSaid : Prop := frameSpoiltUptoRow.holds Try.pinned (OpenSpec.upto frameSpoiltSpec)

/-- 'servitorlaw03.FramePuts', WHERE WHAT IT READS IS OF BULK AT MOST 1048576: true; the input reads as it did. -/
def framePutsUptoRow : OpenClaim := { program := "ytnabpdengfmeaaa", sum := "3c9724ac7bd6efd1adb91be23db42370d7bbf7018ce973b84387716ee2841f42", func := "servitor/servitorlaw03.FramePuts", spec := "framePuts", apart := false, narrowed := true }
def FramePutsUptoSaid : Prop := framePutsUptoRow.holds Try.pinned (OpenSpec.upto framePutsSpec)

/-- 'servitorlaw03.FrameReads', WHERE WHAT IT READS IS OF BULK AT MOST 1048576: true; the input reads as it did. -/
def frameReadsUptoRow : OpenClaim := { program := "ytnabpdengfmeaaa", sum := "3c9724ac7bd6efd1adb91be23db42370d7bbf7018ce973b84387716ee2841f42", func := "servitor/servitorlaw03.FrameReads", spec := "frameReads", apart := false, narrowed := true }
def FrameReadsUptoSaid : Prop := frameReadsUptoRow.holds Try.pinned (OpenSpec.upto frameReadsSpec)

/-- 'servitorlaw03.FrameBack', WHERE WHAT IT READS IS OF BULK AT MOST 1048576: true; the input reads as it did. -/
def frameBackUptoRow : OpenClaim := { program := "ytnabpdengfmeaaa", sum := "3c9724ac7bd6efd1adb91be23db42370d7bbf7018ce973b84387716ee2841f42", func := "servitor/servitorlaw03.FrameBack", spec := "frameBack", apart := false, narrowed := true }
def FrameBackUptoSaid : Prop := frameBackUptoRow.holds Try.pinned (OpenSpec.upto frameBackSpec)

/-- 'servitorlaw06.WordRight', WHERE WHAT IT READS IS OF BULK AT MOST 1048576: true; the input reads as it did. -/
def wordRightUptoRow : OpenClaim := { program := "ytnabpdengfmeaaa", sum := "3c9724ac7bd6efd1adb91be23db42370d7bbf7018ce973b84387716ee2841f42", func := "servitor/servitorlaw06.WordRight", spec := "wordRight", apart := false, narrowed := true }
def WordRightUptoSaid : Prop := wordRightUptoRow.holds Try.pinned (OpenSpec.upto wordRightSpec)

/-- 'servitorlaw06.WordBack', WHERE WHAT IT READS IS OF BULK AT MOST 1048576: true; the input reads as it did. -/
def wordBackUptoRow : OpenClaim := { program := "ytnabpdengfmeaaa", sum := "3c9724ac7bd6efd1adb91be23db42370d7bbf7018ce973b84387716ee2841f42", func := "servitor/servitorlaw06.WordBack", spec := "wordBack", apart := false, narrowed := true }
def WordBackUptoSaid : Prop := wordBackUptoRow.holds Try.pinned (OpenSpec.upto wordBackSpec)

/-- 'servitorlaw04.WatchRight', WHERE WHAT IT READS IS OF BULK AT MOST 1048576: true; the input reads as it did. -/
def watchRightUptoRow : OpenClaim := { program := "ytnabpdengfmeaaa", sum := "3c9724ac7bd6efd1adb91be23db42370d7bbf7018ce973b84387716ee2841f42", func := "servitor/servitorlaw04.WatchRight", spec := "watchRight", apart := false, narrowed := true }
def WatchRightUptoSaid : Prop := watchRightUptoRow.holds Try.pinned (OpenSpec.upto watchRightSpec)

/-- 'servitorlaw04.WatchCounts', WHERE WHAT IT READS IS OF BULK AT MOST 1048576: true; the input reads as it did. -/
def watchCountsUptoRow : OpenClaim := { program := "ytnabpdengfmeaaa", sum := "3c9724ac7bd6efd1adb91be23db42370d7bbf7018ce973b84387716ee2841f42", func := "servitor/servitorlaw04.WatchCounts", spec := "watchCounts", apart := false, narrowed := true }
def WatchCountsUptoSaid : Prop := watchCountsUptoRow.holds Try.pinned (OpenSpec.upto watchCountsSpec)

/-- 'servitorlaw04.WatchOld', WHERE WHAT IT READS IS OF BULK AT MOST 1048576: true; the input reads as it did. -/
def watchOldUptoRow : OpenClaim := { program := "ytnabpdengfmeaaa", sum := "3c9724ac7bd6efd1adb91be23db42370d7bbf7018ce973b84387716ee2841f42", func := "servitor/servitorlaw04.WatchOld", spec := "watchOld", apart := false, narrowed := true }
def WatchOldUptoSaid : Prop := watchOldUptoRow.holds Try.pinned (OpenSpec.upto watchOldSpec)

/-- 'servitorlaw07.DriveTakes', WHERE WHAT IT READS IS OF BULK AT MOST 1048576: true; the input reads as it did. -/
def driveTakesUptoRow : OpenClaim := { program := "ytnabpdengfmeaaa", sum := "3c9724ac7bd6efd1adb91be23db42370d7bbf7018ce973b84387716ee2841f42", func := "servitor/servitorlaw07.DriveTakes", spec := "driveTakes", apart := false, narrowed := true }
def DriveTakesUptoSaid : Prop := driveTakesUptoRow.holds Try.pinned (OpenSpec.upto driveTakesSpec)

/-- 'servitorlaw07.DriveSpoilt', WHERE WHAT IT READS IS OF BULK AT MOST 1048576: true; the input reads as it did. -/
def driveSpoiltUptoRow : OpenClaim := { program := "ytnabpdengfmeaaa", sum := "3c9724ac7bd6efd1adb91be23db42370d7bbf7018ce973b84387716ee2841f42", func := "servitor/servitorlaw07.DriveSpoilt", spec := "driveSpoilt", apart := false, narrowed := true }
def DriveSpoiltUptoSaid : Prop := driveSpoiltUptoRow.holds Try.pinned (OpenSpec.upto driveSpoiltSpec)

/-- 'servitorlaw07.DriveTold', WHERE WHAT IT READS IS OF BULK AT MOST 1048576: true; the input reads as it did. -/
def driveToldUptoRow : OpenClaim := { program := "ytnabpdengfmeaaa", sum := "3c9724ac7bd6efd1adb91be23db42370d7bbf7018ce973b84387716ee2841f42", func := "servitor/servitorlaw07.DriveTold", spec := "driveTold", apart := false, narrowed := true }
def DriveToldUptoSaid : Prop := driveToldUptoRow.holds Try.pinned (OpenSpec.upto driveToldSpec)

/-- 'servitorlaw07.DriveSteps', WHERE WHAT IT READS IS OF BULK AT MOST 1048576: true; the input reads as it did. -/
def driveStepsUptoRow : OpenClaim := { program := "ytnabpdengfmeaaa", sum := "3c9724ac7bd6efd1adb91be23db42370d7bbf7018ce973b84387716ee2841f42", func := "servitor/servitorlaw07.DriveSteps", spec := "driveSteps", apart := false, narrowed := true }
def DriveStepsUptoSaid : Prop := driveStepsUptoRow.holds Try.pinned (OpenSpec.upto driveStepsSpec)

end Rows
end Go.Proofs.Ytnabpdengfmeaaa
