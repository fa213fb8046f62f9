/-
  No cell of these rows narrows 'for every input' (looked for: loops, veiled, ifaces, maps, wideKeys, modest, calm, conditions, laid).
  DERIVED. THE GIVEN ROWS OF THIS SEAT. 20 by the template 'for every input the law returns true; each argument reads behind the call as it read before'; 0 by the template 'total and deterministic' (their statements: YtnpgeohkmdcbkaaTotals.lean).
  GIVEN WITH THE SEED: the statements are not yours to turn. If you find one false, say at which input.
  Laid BY PROGRAM, IN A SANDBOX (cutbox-rows.mjs): the forced cells as the released guide's own fill.sh prints them over the translation 5e93a652184d3467… (all of the seat's roots in one cut). By AI agents, Wed Nov 11 2026. No macro, syntax, notation, axiom, sorry.
-/
import Derived.Test.YtnpgeohkmdcbkaaChecked
import GoSem.Claim
import GoSem.ClaimJoined
import GoSem.ClaimMapViews
import Derived.JoinedTies
import Derived.KernelRfl
namespace Go.Proofs.Ytnpgeohkmdcbkaa
/- THE CELL 'sum', in the pinned program and in every row, IS THE sha256 OF THE DUMP (.gsa) THAT YtnpgeohkmdcbkaaProg.lean LOADS. Nothing in Lean hashes anything: it is a label: what it is worth is what the hold of that sum in a sandbox is worth. -/
noncomputable def Try.pinned : Pinned := { name := "ytnpgeohkmdcbkaa", sum := "5e93a652184d3467d56673eee0ae9fc5a8f28e5b9418ecc8273a0562461fd4d6", checked := Try.checked }
namespace Rows
def none {H : Type} : Left H := { results := [], args := [] }

/-- 'acequialaw06.LabelTells': WHATEVER THE INPUT: true; the input reads as it did. -/
def labelTellsSpec : ChangeSpec := { name := "labelTells", fn := fun _ => fun
  | [d1, d2, d3, d4, d5] => { results := [.lit (.bool true)], args := [d1, d2, d3, d4, d5] }
  | _ => none }
def labelTellsRow : OpenClaim := { program := "ytnpgeohkmdcbkaa", sum := "5e93a652184d3467d56673eee0ae9fc5a8f28e5b9418ecc8273a0562461fd4d6", func := "acequia/acequialaw06.LabelTells", spec := "labelTells", unfollowed := true, recurses := true, apart := false }
def LabelTellsSaid : Prop := labelTellsRow.holds Try.pinned (OpenSpec.ofChange labelTellsSpec)

/-- ITS FALSE NEIGHBOUR: 'it returns false'. Refute it at one input. -/
def labelTellsWrong : ChangeSpec := { name := "labelTells", fn := fun _ => fun
  | [d1, d2, d3, d4, d5] => { results := [.lit (.bool false)], args := [d1, d2, d3, d4, d5] }
  | _ => none }
def LabelTellsWrongFalsely : Prop := labelTellsRow.holds Try.pinned (OpenSpec.ofChange labelTellsWrong)

/-- 'acequialaw06.LabelRaise': WHATEVER THE INPUT: true; the input reads as it did. -/
def labelRaiseSpec : ChangeSpec := { name := "labelRaise", fn := fun _ => fun
  | [d1, d2, d3, d4] => { results := [.lit (.bool true)], args := [d1, d2, d3, d4] }
  | _ => none }
def labelRaiseRow : OpenClaim := { program := "ytnpgeohkmdcbkaa", sum := "5e93a652184d3467d56673eee0ae9fc5a8f28e5b9418ecc8273a0562461fd4d6", func := "acequia/acequialaw06.LabelRaise", spec := "labelRaise", unfollowed := true, recurses := true, apart := false }
def LabelRaiseSaid : Prop := labelRaiseRow.holds Try.pinned (OpenSpec.ofChange labelRaiseSpec)

/-- ITS FALSE NEIGHBOUR: 'it returns false'. Refute it at one input. -/
def labelRaiseWrong : ChangeSpec := { name := "labelRaise", fn := fun _ => fun
  | [d1, d2, d3, d4] => { results := [.lit (.bool false)], args := [d1, d2, d3, d4] }
  | _ => none }
def LabelRaiseWrongFalsely : Prop := labelRaiseRow.holds Try.pinned (OpenSpec.ofChange labelRaiseWrong)

/-- 'acequialaw06.LabelArcs': WHATEVER THE INPUT: true; the input reads as it did. -/
def labelArcsSpec : ChangeSpec := { name := "labelArcs", fn := fun _ => fun
  | [d1, d2, d3, d4] => { results := [.lit (.bool true)], args := [d1, d2, d3, d4] }
  | _ => none }
def labelArcsRow : OpenClaim := { program := "ytnpgeohkmdcbkaa", sum := "5e93a652184d3467d56673eee0ae9fc5a8f28e5b9418ecc8273a0562461fd4d6", func := "acequia/acequialaw06.LabelArcs", spec := "labelArcs", unfollowed := true, recurses := true, apart := false }
def LabelArcsSaid : Prop := labelArcsRow.holds Try.pinned (OpenSpec.ofChange labelArcsSpec)

/-- ITS FALSE NEIGHBOUR: 'it returns false'. Refute it at one input. -/
def labelArcsWrong : ChangeSpec := { name := "labelArcs", fn := fun _ => fun
  | [d1, d2, d3, d4] => { results := [.lit (.bool false)], args := [d1, d2, d3, d4] }
  | _ => none }
def LabelArcsWrongFalsely : Prop := labelArcsRow.holds Try.pinned (OpenSpec.ofChange labelArcsWrong)

/-- 'acequialaw06.LabelLess': WHATEVER THE INPUT: true; the input reads as it did. -/
def labelLessSpec : ChangeSpec := { name := "labelLess", fn := fun _ => fun
  | [d1, d2, d3, d4] => { results := [.lit (.bool true)], args := [d1, d2, d3, d4] }
  | _ => none }
def labelLessRow : OpenClaim := { program := "ytnpgeohkmdcbkaa", sum := "5e93a652184d3467d56673eee0ae9fc5a8f28e5b9418ecc8273a0562461fd4d6", func := "acequia/acequialaw06.LabelLess", spec := "labelLess", unfollowed := true, recurses := true, apart := false }
def LabelLessSaid : Prop := labelLessRow.holds Try.pinned (OpenSpec.ofChange labelLessSpec)

/-- ITS FALSE NEIGHBOUR: 'it returns false'. Refute it at one input. -/
def labelLessWrong : ChangeSpec := { name := "labelLess", fn := fun _ => fun
  | [d1, d2, d3, d4] => { results := [.lit (.bool false)], args := [d1, d2, d3, d4] }
  | _ => none }
def LabelLessWrongFalsely : Prop := labelLessRow.holds Try.pinned (OpenSpec.ofChange labelLessWrong)

/-- 'acequialaw05.DistMore': WHATEVER THE INPUT: true; the input reads as it did. -/
def distMoreSpec : ChangeSpec := { name := "distMore", fn := fun _ => fun
  | [d1, d2, d3, d4] => { results := [.lit (.bool true)], args := [d1, d2, d3, d4] }
  | _ => none }
def distMoreRow : OpenClaim := { program := "ytnpgeohkmdcbkaa", sum := "5e93a652184d3467d56673eee0ae9fc5a8f28e5b9418ecc8273a0562461fd4d6", func := "acequia/acequialaw05.DistMore", spec := "distMore", unfollowed := true, recurses := true, apart := false }
def DistMoreSaid : Prop := distMoreRow.holds Try.pinned (OpenSpec.ofChange distMoreSpec)

/-- ITS FALSE NEIGHBOUR: 'it returns false'. Refute it at one input. -/
def distMoreWrong : ChangeSpec := { name := "distMore", fn := fun _ => fun
  | [d1, d2, d3, d4] => { results := [.lit (.bool false)], args := [d1, d2, d3, d4] }
  | _ => none }
def DistMoreWrongFalsely : Prop := distMoreRow.holds Try.pinned (OpenSpec.ofChange distMoreWrong)

/-- 'acequialaw20.GlobalsDown': WHATEVER THE INPUT: true; the input reads as it did. -/
def globalsDownSpec : ChangeSpec := { name := "globalsDown", fn := fun _ => fun
  | [d1, d2, d3] => { results := [.lit (.bool true)], args := [d1, d2, d3] }
  | _ => none }
def globalsDownRow : OpenClaim := { program := "ytnpgeohkmdcbkaa", sum := "5e93a652184d3467d56673eee0ae9fc5a8f28e5b9418ecc8273a0562461fd4d6", func := "acequia/acequialaw20.GlobalsDown", spec := "globalsDown", unfollowed := true, recurses := true, apart := false }
def GlobalsDownSaid : Prop := globalsDownRow.holds Try.pinned (OpenSpec.ofChange globalsDownSpec)

/-- ITS FALSE NEIGHBOUR: 'it returns false'. Refute it at one input. -/
def globalsDownWrong : ChangeSpec := { name := "globalsDown", fn := fun _ => fun
  | [d1, d2, d3] => { results := [.lit (.bool false)], args := [d1, d2, d3] }
  | _ => none }
def GlobalsDownWrongFalsely : Prop := globalsDownRow.holds Try.pinned (OpenSpec.ofChange globalsDownWrong)

/-- 'acequialaw05.DistTurns': WHATEVER THE INPUT: true; the input reads as it did. -/
def distTurnsSpec : ChangeSpec := { name := "distTurns", fn := fun _ => fun
  | [d1, d2, d3, d4, d5] => { results := [.lit (.bool true)], args := [d1, d2, d3, d4, d5] }
  | _ => none }
def distTurnsRow : OpenClaim := { program := "ytnpgeohkmdcbkaa", sum := "5e93a652184d3467d56673eee0ae9fc5a8f28e5b9418ecc8273a0562461fd4d6", func := "acequia/acequialaw05.DistTurns", spec := "distTurns", unfollowed := true, recurses := true, apart := false }
def DistTurnsSaid : Prop := distTurnsRow.holds Try.pinned (OpenSpec.ofChange distTurnsSpec)

/-- ITS FALSE NEIGHBOUR: 'it returns false'. Refute it at one input. -/
def distTurnsWrong : ChangeSpec := { name := "distTurns", fn := fun _ => fun
  | [d1, d2, d3, d4, d5] => { results := [.lit (.bool false)], args := [d1, d2, d3, d4, d5] }
  | _ => none }
def DistTurnsWrongFalsely : Prop := distTurnsRow.holds Try.pinned (OpenSpec.ofChange distTurnsWrong)

/-- 'acequialaw20.GlobalsExact': WHATEVER THE INPUT: true; the input reads as it did. -/
def globalsExactSpec : ChangeSpec := { name := "globalsExact", fn := fun _ => fun
  | [d1, d2, d3, d4, d5] => { results := [.lit (.bool true)], args := [d1, d2, d3, d4, d5] }
  | _ => none }
def globalsExactRow : OpenClaim := { program := "ytnpgeohkmdcbkaa", sum := "5e93a652184d3467d56673eee0ae9fc5a8f28e5b9418ecc8273a0562461fd4d6", func := "acequia/acequialaw20.GlobalsExact", spec := "globalsExact", unfollowed := true, recurses := true, apart := false }
def GlobalsExactSaid : Prop := globalsExactRow.holds Try.pinned (OpenSpec.ofChange globalsExactSpec)

/-- ITS FALSE NEIGHBOUR: 'it returns false'. Refute it at one input. -/
def globalsExactWrong : ChangeSpec := { name := "globalsExact", fn := fun _ => fun
  | [d1, d2, d3, d4, d5] => { results := [.lit (.bool false)], args := [d1, d2, d3, d4, d5] }
  | _ => none }
def GlobalsExactWrongFalsely : Prop := globalsExactRow.holds Try.pinned (OpenSpec.ofChange globalsExactWrong)

/-- 'acequialaw05.DistRows': WHATEVER THE INPUT: true; the input reads as it did. -/
def distRowsSpec : ChangeSpec := { name := "distRows", fn := fun _ => fun
  | [d1, d2, d3] => { results := [.lit (.bool true)], args := [d1, d2, d3] }
  | _ => none }
def distRowsRow : OpenClaim := { program := "ytnpgeohkmdcbkaa", sum := "5e93a652184d3467d56673eee0ae9fc5a8f28e5b9418ecc8273a0562461fd4d6", func := "acequia/acequialaw05.DistRows", spec := "distRows", unfollowed := true, recurses := true, apart := false }
def DistRowsSaid : Prop := distRowsRow.holds Try.pinned (OpenSpec.ofChange distRowsSpec)

/-- ITS FALSE NEIGHBOUR: 'it returns false'. Refute it at one input. -/
def distRowsWrong : ChangeSpec := { name := "distRows", fn := fun _ => fun
  | [d1, d2, d3] => { results := [.lit (.bool false)], args := [d1, d2, d3] }
  | _ => none }
def DistRowsWrongFalsely : Prop := distRowsRow.holds Try.pinned (OpenSpec.ofChange distRowsWrong)

/-- 'acequialaw19.RepairTells': WHATEVER THE INPUT: true; the input reads as it did. -/
def repairTellsSpec : ChangeSpec := { name := "repairTells", fn := fun _ => fun
  | [d1, d2, d3, d4] => { results := [.lit (.bool true)], args := [d1, d2, d3, d4] }
  | _ => none }
def repairTellsRow : OpenClaim := { program := "ytnpgeohkmdcbkaa", sum := "5e93a652184d3467d56673eee0ae9fc5a8f28e5b9418ecc8273a0562461fd4d6", func := "acequia/acequialaw19.RepairTells", spec := "repairTells", unfollowed := true, recurses := true, apart := false }
def RepairTellsSaid : Prop := repairTellsRow.holds Try.pinned (OpenSpec.ofChange repairTellsSpec)

/-- ITS FALSE NEIGHBOUR: 'it returns false'. Refute it at one input. -/
def repairTellsWrong : ChangeSpec := { name := "repairTells", fn := fun _ => fun
  | [d1, d2, d3, d4] => { results := [.lit (.bool false)], args := [d1, d2, d3, d4] }
  | _ => none }
def RepairTellsWrongFalsely : Prop := repairTellsRow.holds Try.pinned (OpenSpec.ofChange repairTellsWrong)

/-- 'acequialaw19.RepairOrder': WHATEVER THE INPUT: true; the input reads as it did. -/
def repairOrderSpec : ChangeSpec := { name := "repairOrder", fn := fun _ => fun
  | [d1, d2, d3, d4, d5] => { results := [.lit (.bool true)], args := [d1, d2, d3, d4, d5] }
  | _ => none }
def repairOrderRow : OpenClaim := { program := "ytnpgeohkmdcbkaa", sum := "5e93a652184d3467d56673eee0ae9fc5a8f28e5b9418ecc8273a0562461fd4d6", func := "acequia/acequialaw19.RepairOrder", spec := "repairOrder", unfollowed := true, recurses := true, apart := false }
def RepairOrderSaid : Prop := repairOrderRow.holds Try.pinned (OpenSpec.ofChange repairOrderSpec)

/-- ITS FALSE NEIGHBOUR: 'it returns false'. Refute it at one input. -/
def repairOrderWrong : ChangeSpec := { name := "repairOrder", fn := fun _ => fun
  | [d1, d2, d3, d4, d5] => { results := [.lit (.bool false)], args := [d1, d2, d3, d4, d5] }
  | _ => none }
def RepairOrderWrongFalsely : Prop := repairOrderRow.holds Try.pinned (OpenSpec.ofChange repairOrderWrong)

/-- 'acequialaw05.DistTells': WHATEVER THE INPUT: true; the input reads as it did. -/
def distTellsSpec : ChangeSpec := { name := "distTells", fn := fun _ => fun
  | [d1, d2, d3, d4, d5] => { results := [.lit (.bool true)], args := [d1, d2, d3, d4, d5] }
  | _ => none }
def distTellsRow : OpenClaim := { program := "ytnpgeohkmdcbkaa", sum := "5e93a652184d3467d56673eee0ae9fc5a8f28e5b9418ecc8273a0562461fd4d6", func := "acequia/acequialaw05.DistTells", spec := "distTells", unfollowed := true, recurses := true, apart := false }
def DistTellsSaid : Prop := distTellsRow.holds Try.pinned (OpenSpec.ofChange distTellsSpec)

/-- ITS FALSE NEIGHBOUR: 'it returns false'. Refute it at one input. -/
def distTellsWrong : ChangeSpec := { name := "distTells", fn := fun _ => fun
  | [d1, d2, d3, d4, d5] => { results := [.lit (.bool false)], args := [d1, d2, d3, d4, d5] }
  | _ => none }
def DistTellsWrongFalsely : Prop := distTellsRow.holds Try.pinned (OpenSpec.ofChange distTellsWrong)

/-- 'acequialaw05.DistSteps': WHATEVER THE INPUT: true; the input reads as it did. -/
def distStepsSpec : ChangeSpec := { name := "distSteps", fn := fun _ => fun
  | [d1, d2, d3] => { results := [.lit (.bool true)], args := [d1, d2, d3] }
  | _ => none }
def distStepsRow : OpenClaim := { program := "ytnpgeohkmdcbkaa", sum := "5e93a652184d3467d56673eee0ae9fc5a8f28e5b9418ecc8273a0562461fd4d6", func := "acequia/acequialaw05.DistSteps", spec := "distSteps", unfollowed := true, recurses := true, apart := false }
def DistStepsSaid : Prop := distStepsRow.holds Try.pinned (OpenSpec.ofChange distStepsSpec)

/-- ITS FALSE NEIGHBOUR: 'it returns false'. Refute it at one input. -/
def distStepsWrong : ChangeSpec := { name := "distSteps", fn := fun _ => fun
  | [d1, d2, d3] => { results := [.lit (.bool false)], args := [d1, d2, d3] }
  | _ => none }
def DistStepsWrongFalsely : Prop := distStepsRow.holds Try.pinned (OpenSpec.ofChange distStepsWrong)

/-- 'acequialaw05.DistWay': WHATEVER THE INPUT: true; the input reads as it did. -/
def distWaySpec : ChangeSpec := { name := "distWay", fn := fun _ => fun
  | [d1, d2, d3, d4] => { results := [.lit (.bool true)], args := [d1, d2, d3, d4] }
  | _ => none }
def distWayRow : OpenClaim := { program := "ytnpgeohkmdcbkaa", sum := "5e93a652184d3467d56673eee0ae9fc5a8f28e5b9418ecc8273a0562461fd4d6", func := "acequia/acequialaw05.DistWay", spec := "distWay", unfollowed := true, recurses := true, apart := false }
def DistWaySaid : Prop := distWayRow.holds Try.pinned (OpenSpec.ofChange distWaySpec)

/-- ITS FALSE NEIGHBOUR: 'it returns false'. Refute it at one input. -/
def distWayWrong : ChangeSpec := { name := "distWay", fn := fun _ => fun
  | [d1, d2, d3, d4] => { results := [.lit (.bool false)], args := [d1, d2, d3, d4] }
  | _ => none }
def DistWayWrongFalsely : Prop := distWayRow.holds Try.pinned (OpenSpec.ofChange distWayWrong)

/-- 'acequialaw19.RepairGreatest': WHATEVER THE INPUT: true; the input reads as it did. -/
def repairGreatestSpec : ChangeSpec := { name := "repairGreatest", fn := fun _ => fun
  | [d1, d2, d3, d4] => { results := [.lit (.bool true)], args := [d1, d2, d3, d4] }
  | _ => none }
def repairGreatestRow : OpenClaim := { program := "ytnpgeohkmdcbkaa", sum := "5e93a652184d3467d56673eee0ae9fc5a8f28e5b9418ecc8273a0562461fd4d6", func := "acequia/acequialaw19.RepairGreatest", spec := "repairGreatest", unfollowed := true, recurses := true, apart := false }
def RepairGreatestSaid : Prop := repairGreatestRow.holds Try.pinned (OpenSpec.ofChange repairGreatestSpec)

/-- ITS FALSE NEIGHBOUR: 'it returns false'. Refute it at one input. -/
def repairGreatestWrong : ChangeSpec := { name := "repairGreatest", fn := fun _ => fun
  | [d1, d2, d3, d4] => { results := [.lit (.bool false)], args := [d1, d2, d3, d4] }
  | _ => none }
def RepairGreatestWrongFalsely : Prop := repairGreatestRow.holds Try.pinned (OpenSpec.ofChange repairGreatestWrong)

/-- 'acequialaw19.RepairFlat': WHATEVER THE INPUT: true; the input reads as it did. -/
def repairFlatSpec : ChangeSpec := { name := "repairFlat", fn := fun _ => fun
  | [d1, d2, d3] => { results := [.lit (.bool true)], args := [d1, d2, d3] }
  | _ => none }
def repairFlatRow : OpenClaim := { program := "ytnpgeohkmdcbkaa", sum := "5e93a652184d3467d56673eee0ae9fc5a8f28e5b9418ecc8273a0562461fd4d6", func := "acequia/acequialaw19.RepairFlat", spec := "repairFlat", unfollowed := true, recurses := true, apart := false }
def RepairFlatSaid : Prop := repairFlatRow.holds Try.pinned (OpenSpec.ofChange repairFlatSpec)

/-- ITS FALSE NEIGHBOUR: 'it returns false'. Refute it at one input. -/
def repairFlatWrong : ChangeSpec := { name := "repairFlat", fn := fun _ => fun
  | [d1, d2, d3] => { results := [.lit (.bool false)], args := [d1, d2, d3] }
  | _ => none }
def RepairFlatWrongFalsely : Prop := repairFlatRow.holds Try.pinned (OpenSpec.ofChange repairFlatWrong)

/-- 'acequialaw06.LabelDist': WHATEVER THE INPUT: true; the input reads as it did. -/
def labelDistSpec : ChangeSpec := { name := "labelDist", fn := fun _ => fun
  | [d1, d2, d3] => { results := [.lit (.bool true)], args := [d1, d2, d3] }
  | _ => none }
def labelDistRow : OpenClaim := { program := "ytnpgeohkmdcbkaa", sum := "5e93a652184d3467d56673eee0ae9fc5a8f28e5b9418ecc8273a0562461fd4d6", func := "acequia/acequialaw06.LabelDist", spec := "labelDist", unfollowed := true, recurses := true, apart := false }
def LabelDistSaid : Prop := labelDistRow.holds Try.pinned (OpenSpec.ofChange labelDistSpec)

/-- ITS FALSE NEIGHBOUR: 'it returns false'. Refute it at one input. -/
def labelDistWrong : ChangeSpec := { name := "labelDist", fn := fun _ => fun
  | [d1, d2, d3] => { results := [.lit (.bool false)], args := [d1, d2, d3] }
  | _ => none }
def LabelDistWrongFalsely : Prop := labelDistRow.holds Try.pinned (OpenSpec.ofChange labelDistWrong)

/-- 'acequialaw20.GlobalsRisen': WHATEVER THE INPUT: true; the input reads as it did. -/
def globalsRisenSpec : ChangeSpec := { name := "globalsRisen", fn := fun _ => fun
  | [d1, d2, d3] => { results := [.lit (.bool true)], args := [d1, d2, d3] }
  | _ => none }
def globalsRisenRow : OpenClaim := { program := "ytnpgeohkmdcbkaa", sum := "5e93a652184d3467d56673eee0ae9fc5a8f28e5b9418ecc8273a0562461fd4d6", func := "acequia/acequialaw20.GlobalsRisen", spec := "globalsRisen", unfollowed := true, recurses := true, apart := false }
def GlobalsRisenSaid : Prop := globalsRisenRow.holds Try.pinned (OpenSpec.ofChange globalsRisenSpec)

/-- ITS FALSE NEIGHBOUR: 'it returns false'. Refute it at one input. -/
def globalsRisenWrong : ChangeSpec := { name := "globalsRisen", fn := fun _ => fun
  | [d1, d2, d3] => { results := [.lit (.bool false)], args := [d1, d2, d3] }
  | _ => none }
def GlobalsRisenWrongFalsely : Prop := globalsRisenRow.holds Try.pinned (OpenSpec.ofChange globalsRisenWrong)

/-- 'acequialaw20.GlobalsReach': WHATEVER THE INPUT: true; the input reads as it did. -/
def globalsReachSpec : ChangeSpec := { name := "globalsReach", fn := fun _ => fun
  | [d1, d2, d3] => { results := [.lit (.bool true)], args := [d1, d2, d3] }
  | _ => none }
def globalsReachRow : OpenClaim := { program := "ytnpgeohkmdcbkaa", sum := "5e93a652184d3467d56673eee0ae9fc5a8f28e5b9418ecc8273a0562461fd4d6", func := "acequia/acequialaw20.GlobalsReach", spec := "globalsReach", unfollowed := true, recurses := true, apart := false }
def GlobalsReachSaid : Prop := globalsReachRow.holds Try.pinned (OpenSpec.ofChange globalsReachSpec)

/-- ITS FALSE NEIGHBOUR: 'it returns false'. Refute it at one input. -/
def globalsReachWrong : ChangeSpec := { name := "globalsReach", fn := fun _ => fun
  | [d1, d2, d3] => { results := [.lit (.bool false)], args := [d1, d2, d3] }
  | _ => none }
def GlobalsReachWrongFalsely : Prop := globalsReachRow.holds Try.pinned (OpenSpec.ofChange globalsReachWrong)

/-- 'acequialaw20.GlobalsTell': WHATEVER THE INPUT: true; the input reads as it did. -/
def globalsTellSpec : ChangeSpec := { name := "globalsTell", fn := fun _ => fun
  | [d1, d2, d3, d4, d5, d6, d7] => { results := [.lit (.bool true)], args := [d1, d2, d3, d4, d5, d6, d7] }
  | _ => none }
def globalsTellRow : OpenClaim := { program := "ytnpgeohkmdcbkaa", sum := "5e93a652184d3467d56673eee0ae9fc5a8f28e5b9418ecc8273a0562461fd4d6", func := "acequia/acequialaw20.GlobalsTell", spec := "globalsTell", unfollowed := true, recurses := true, apart := false }
def GlobalsTellSaid : Prop := globalsTellRow.holds Try.pinned (OpenSpec.ofChange globalsTellSpec)

/-- ITS FALSE NEIGHBOUR: 'it returns false'. Refute it at one input. -/
def globalsTellWrong : ChangeSpec := { name := "globalsTell", fn := fun _ => fun
  | [d1, d2, d3, d4, d5, d6, d7] => { results := [.lit (.bool false)], args := [d1, d2, d3, d4, d5, d6, d7] }
  | _ => none }
def GlobalsTellWrongFalsely : Prop := globalsTellRow.holds Try.pinned (OpenSpec.ofChange globalsTellWrong)

/- THE SECOND FORM. 'bulk': how many values and letters a reading holds, each counted each time it is reached (what is shared counts as often as it is met; a slice's spare places count too). A statement '..UptoSaid' is the law's where the arguments, and the package variables that the reading takes, are together of bulk at most 1048576: NARROWER than '..Said'. Prove '..Said' where nothing that the law and all that it calls make is longer than what came in: it says more and counts as full. Else prove '..UptoSaid'. A law counts once. -/
mutual
def uptoBulk {H : Type} : DataW H → Nat
  | .lit (.string bytes) => bytes.length + 1
  | .lit _ => 1
  | .nil => 1
  | .ptr d => uptoBulk d + 1
  | .slice elems spare => uptoBulkAll elems + uptoBulkAll spare + 1
  | .agg parts => uptoBulkAll parts + 1
  | .iface _ d => uptoBulk d + 1
  | .map entries => uptoBulkEntries entries + 1
  | .held _ => 1
def uptoBulkAll {H : Type} : List (DataW H) → Nat
  | [] => 0
  | d :: r => uptoBulk d + uptoBulkAll r
def uptoBulkEntries {H : Type} : List (Lit × DataW H) → Nat
  | [] => 0
  | x :: r => uptoBulkEntry x + uptoBulkEntries r
def uptoBulkEntry {H : Type} : Lit × DataW H → Nat
  | (.string bytes, d) => bytes.length + uptoBulk d + 1
  | (_, d) => uptoBulk d + 1
 end
def uptoSmall : (H : Type) → List (DataW H) → Bool := fun _ ds => decide (uptoBulkAll ds ≤ 1048576)
def OpenSpec.upto (s : _root_.Go.ChangeSpec) : _root_.Go.OpenSpec := { _root_.Go.OpenSpec.ofChange s with cond := some uptoSmall }

/-- 'acequialaw06.LabelTells', WHERE WHAT IT READS IS OF BULK AT MOST 1048576: true; the input reads as it did. -/
def labelTellsUptoRow : OpenClaim := { program := "ytnpgeohkmdcbkaa", sum := "5e93a652184d3467d56673eee0ae9fc5a8f28e5b9418ecc8273a0562461fd4d6", func := "acequia/acequialaw06.LabelTells", spec := "labelTells", unfollowed := true, recurses := true, apart := false, narrowed := true }
def LabelTellsUptoSaid : Prop := labelTellsUptoRow.holds Try.pinned (OpenSpec.upto labelTellsSpec)

/-- 'acequialaw06.LabelRaise', WHERE WHAT IT READS IS OF BULK AT MOST 1048576: true; the input reads as it did. -/
def labelRaiseUptoRow : OpenClaim := { program := "ytnpgeohkmdcbkaa", sum := "5e93a652184d3467d56673eee0ae9fc5a8f28e5b9418ecc8273a0562461fd4d6", func := "acequia/acequialaw06.LabelRaise", spec := "labelRaise", unfollowed := true, recurses := true, apart := false, narrowed := true }
def LabelRaiseUptoSaid : Prop := labelRaiseUptoRow.holds Try.pinned (OpenSpec.upto labelRaiseSpec)

/-- 'acequialaw06.LabelArcs', WHERE WHAT IT READS IS OF BULK AT MOST 1048576: true; the input reads as it did. -/
def labelArcsUptoRow : OpenClaim := { program := "ytnpgeohkmdcbkaa", sum := "5e93a652184d3467d56673eee0ae9fc5a8f28e5b9418ecc8273a0562461fd4d6", func := "acequia/acequialaw06.LabelArcs", spec := "labelArcs", unfollowed := true, recurses := true, apart := false, narrowed := true }
def LabelArcsUptoSaid : Prop := labelArcsUptoRow.holds Try.pinned (OpenSpec.upto labelArcsSpec)

/-- 'acequialaw06.LabelLess', WHERE WHAT IT READS IS OF BULK AT MOST 1048576: true; the input reads as it did. -/
def labelLessUptoRow : OpenClaim := { program := "ytnpgeohkmdcbkaa", sum := "5e93a652184d3467d56673eee0ae9fc5a8f28e5b9418ecc8273a0562461fd4d6", func := "acequia/acequialaw06.LabelLess", spec := "labelLess", unfollowed := true, recurses := true, apart := false, narrowed := true }
def LabelLessUptoSaid : Prop := labelLessUptoRow.holds Try.pinned (OpenSpec.upto labelLessSpec)

/-- 'acequialaw05.DistMore', WHERE WHAT IT READS IS OF BULK AT MOST 1048576: true; the input reads as it did. -/
def distMoreUptoRow : OpenClaim := { program := "ytnpgeohkmdcbkaa", sum := "5e93a652184d3467d56673eee0ae9fc5a8f28e5b9418ecc8273a0562461fd4d6", func := "acequia/acequialaw05.DistMore", spec := "distMore", unfollowed := true, recurses := true, apart := false, narrowed := true }
def DistMoreUptoSaid : Prop := distMoreUptoRow.holds Try.pinned (OpenSpec.upto distMoreSpec)

/-- 'acequialaw20.GlobalsDown', WHERE WHAT IT READS IS OF BULK AT MOST 1048576: true; the input reads as it did. -/
def globalsDownUptoRow : OpenClaim := { program := "ytnpgeohkmdcbkaa", sum := "5e93a652184d3467d56673eee0ae9fc5a8f28e5b9418ecc8273a0562461fd4d6", func := "acequia/acequialaw20.GlobalsDown", spec := "globalsDown", unfollowed := true, recurses := true, apart := false, narrowed := true }
def GlobalsDownUptoSaid : Prop := globalsDownUptoRow.holds Try.pinned (OpenSpec.upto globalsDownSpec)

/-- 'acequialaw05.DistTurns', WHERE WHAT IT READS IS OF BULK AT MOST 1048576: true; the input reads as it did. -/
def distTurnsUptoRow : OpenClaim := { program := "ytnpgeohkmdcbkaa", sum := "5e93a652184d3467d56673eee0ae9fc5a8f28e5b9418ecc8273a0562461fd4d6", func := "acequia/acequialaw05.DistTurns", spec := "distTurns", unfollowed := true, recurses := true, apart := false, narrowed := true }
def DistTurnsUptoSaid : Prop := distTurnsUptoRow.holds Try.pinned (OpenSpec.upto distTurnsSpec)

/-- 'acequialaw20.GlobalsExact', WHERE WHAT IT READS IS OF BULK AT MOST 1048576: true; the input reads as it did. -/
def globalsExactUptoRow : OpenClaim := { program := "ytnpgeohkmdcbkaa", sum := "5e93a652184d3467d56673eee0ae9fc5a8f28e5b9418ecc8273a0562461fd4d6", func := "acequia/acequialaw20.GlobalsExact", spec := "globalsExact", unfollowed := true, recurses := true, apart := false, narrowed := true }
def GlobalsExactUptoSaid : Prop := globalsExactUptoRow.holds Try.pinned (OpenSpec.upto globalsExactSpec)

/-- 'acequialaw05.DistRows', WHERE WHAT IT READS IS OF BULK AT MOST 1048576: true; the input reads as it did. -/
def distRowsUptoRow : OpenClaim := { program := "ytnpgeohkmdcbkaa", sum := "5e93a652184d3467d56673eee0ae9fc5a8f28e5b9418ecc8273a0562461fd4d6", func := "acequia/acequialaw05.DistRows", spec := "distRows", unfollowed := true, recurses := true, apart := false, narrowed := true }
def DistRowsUptoSaid : Prop := distRowsUptoRow.holds Try.pinned (OpenSpec.upto distRowsSpec)

/-- 'acequialaw19.RepairTells', WHERE WHAT IT READS IS OF BULK AT MOST 1048576: true; the input reads as it did. -/
def repairTellsUptoRow : OpenClaim := { program := "ytnpgeohkmdcbkaa", sum := "5e93a652184d3467d56673eee0ae9fc5a8f28e5b9418ecc8273a0562461fd4d6", func := "acequia/acequialaw19.RepairTells", spec := "repairTells", unfollowed := true, recurses := true, apart := false, narrowed := true }
def RepairTellsUptoSaid : Prop := repairTellsUptoRow.holds Try.pinned (OpenSpec.upto repairTellsSpec)

/-- 'acequialaw19.RepairOrder', WHERE WHAT IT READS IS OF BULK AT MOST 1048576: true; the input reads as it did. -/
def repairOrderUptoRow : OpenClaim := { program := "ytnpgeohkmdcbkaa", sum := "5e93a652184d3467d56673eee0ae9fc5a8f28e5b9418ecc8273a0562461fd4d6", func := "acequia/acequialaw19.RepairOrder", spec := "repairOrder", unfollowed := true, recurses := true, apart := false, narrowed := true }
def RepairOrderUptoSaid : Prop := repairOrderUptoRow.holds Try.pinned (OpenSpec.upto repairOrderSpec)

/-- 'acequialaw05.DistTells', WHERE WHAT IT READS IS OF BULK AT MOST 1048576: true; the input reads as it did. -/
def distTellsUptoRow : OpenClaim := { program := "ytnpgeohkmdcbkaa", sum := "5e93a652184d3467d56673eee0ae9fc5a8f28e5b9418ecc8273a0562461fd4d6", func := "acequia/acequialaw05.DistTells", spec := "distTells", unfollowed := true, recurses := true, apart := false, narrowed := true }
def DistTellsUptoSaid : Prop := distTellsUptoRow.holds Try.pinned (OpenSpec.upto distTellsSpec)

/-- 'acequialaw05.DistSteps', WHERE WHAT IT READS IS OF BULK AT MOST 1048576: true; the input reads as it did. -/
def distStepsUptoRow : OpenClaim := { program := "ytnpgeohkmdcbkaa", sum := "5e93a652184d3467d56673eee0ae9fc5a8f28e5b9418ecc8273a0562461fd4d6", func := "acequia/acequialaw05.DistSteps", spec := "distSteps", unfollowed := true, recurses := true, apart := false, narrowed := true }
def DistStepsUptoSaid : Prop := distStepsUptoRow.holds Try.pinned (OpenSpec.upto distStepsSpec)

/-- 'acequialaw05.DistWay', WHERE WHAT IT READS IS OF BULK AT MOST 1048576: true; the input reads as it did. -/
def distWayUptoRow : OpenClaim := { program := "ytnpgeohkmdcbkaa", sum := "5e93a652184d3467d56673eee0ae9fc5a8f28e5b9418ecc8273a0562461fd4d6", func := "acequia/acequialaw05.DistWay", spec := "distWay", unfollowed := true, recurses := true, apart := false, narrowed := true }
def DistWayUptoSaid : Prop := distWayUptoRow.holds Try.pinned (OpenSpec.upto distWaySpec)

/-- 'acequialaw19.RepairGreatest', WHERE WHAT IT READS IS OF BULK AT MOST 1048576: true; the input reads as it did. -/
def repairGreatestUptoRow : OpenClaim := { program := "ytnpgeohkmdcbkaa", sum := "5e93a652184d3467d56673eee0ae9fc5a8f28e5b9418ecc8273a0562461fd4d6", func := "acequia/acequialaw19.RepairGreatest", spec := "repairGreatest", unfollowed := true, recurses := true, apart := false, narrowed := true }
def RepairGreatestUptoSaid : Prop := repairGreatestUptoRow.holds Try.pinned (OpenSpec.upto repairGreatestSpec)

/-- 'acequialaw19.RepairFlat', WHERE WHAT IT READS IS OF BULK AT MOST 1048576: true; the input reads as it did. -/
def repairFlatUptoRow : OpenClaim := { program := "ytnpgeohkmdcbkaa", sum := "5e93a652184d3467d56673eee0ae9fc5a8f28e5b9418ecc8273a0562461fd4d6", func := "acequia/acequialaw19.RepairFlat", spec := "repairFlat", unfollowed := true, recurses := true, apart := false, narrowed := true }
def RepairFlatUptoSaid : Prop := repairFlatUptoRow.holds Try.pinned (OpenSpec.upto repairFlatSpec)

/-- 'acequialaw06.LabelDist', WHERE WHAT IT READS IS OF BULK AT MOST 1048576: true; the input reads as it did. -/
def labelDistUptoRow : OpenClaim := { program := "ytnpgeohkmdcbkaa", sum := "5e93a652184d3467d56673eee0ae9fc5a8f28e5b9418ecc8273a0562461fd4d6", func := "acequia/acequialaw06.LabelDist", spec := "labelDist", unfollowed := true, recurses := true, apart := false, narrowed := true }
def LabelDistUptoSaid : Prop := labelDistUptoRow.holds Try.pinned (OpenSpec.upto labelDistSpec)

/-- 'acequialaw20.GlobalsRisen', WHERE WHAT IT READS IS OF BULK AT MOST 1048576: true; the input reads as it did. -/
def globalsRisenUptoRow : OpenClaim := { program := "ytnpgeohkmdcbkaa", sum := "5e93a652184d3467d56673eee0ae9fc5a8f28e5b9418ecc8273a0562461fd4d6", func := "acequia/acequialaw20.GlobalsRisen", spec := "globalsRisen", unfollowed := true, recurses := true, apart := false, narrowed := true }
def GlobalsRisenUptoSaid : Prop := globalsRisenUptoRow.holds Try.pinned (OpenSpec.upto globalsRisenSpec)

/-- 'acequialaw20.GlobalsReach', WHERE WHAT IT READS IS OF BULK AT MOST 1048576: true; the input reads as it did. -/
def globalsReachUptoRow : OpenClaim := { program := "ytnpgeohkmdcbkaa", sum := "5e93a652184d3467d56673eee0ae9fc5a8f28e5b9418ecc8273a0562461fd4d6", func := "acequia/acequialaw20.GlobalsReach", spec := "globalsReach", unfollowed := true, recurses := true, apart := false, narrowed := true }
def GlobalsReachUptoSaid : Prop := globalsReachUptoRow.holds Try.pinned (OpenSpec.upto globalsReachSpec)

/-- 'acequialaw20.GlobalsTell', WHERE WHAT IT READS IS OF BULK AT MOST 1048576: true; the input reads as it did. -/
def globalsTellUptoRow : OpenClaim := { program := "ytnpgeohkmdcbkaa", sum := "5e93a652184d3467d56673eee0ae9fc5a8f28e5b9418ecc8273a0562461fd4d6", func := "acequia/acequialaw20.GlobalsTell", spec := "globalsTell", unfollowed := true, recurses := true, apart := false, narrowed := true }
def GlobalsTellUptoSaid : Prop := globalsTellUptoRow.holds Try.pinned (OpenSpec.upto globalsTellSpec)

end Rows
end Go.Proofs.Ytnpgeohkmdcbkaa
