/-
  No cell of these rows narrows 'for every input' (looked for: loops, veiled, ifaces, maps, wideKeys, modest, calm, conditions, laid).
  DERIVED. THE GIVEN ROWS OF THIS SEAT. 32 by the template 'for every input the law returns true; each argument reads behind the call as it read before'; 0 by the template 'total and deterministic' (their statements: YtijeemdjcgijpaaTotals.lean).
  GIVEN WITH THE SEED: the statements are not yours to turn. If you find one false, say at which input.
  Laid BY PROGRAM, IN A SANDBOX (cutbox-rows.mjs): the forced cells as the released guide's own fill.sh prints them over the translation 5163ec557e08a154… (all of the seat's roots in one cut). By AI agents, Wed Nov 11 2026. No macro, syntax, notation, axiom, sorry.
-/
import Derived.Test.YtijeemdjcgijpaaChecked
import GoSem.Claim
import GoSem.ClaimJoined
import GoSem.ClaimMapViews
import Derived.JoinedTies
import Derived.KernelRfl
namespace Go.Proofs.Ytijeemdjcgijpaa
/- THE CELL 'sum', in the pinned program and in every row, IS THE sha256 OF THE DUMP (.gsa) THAT YtijeemdjcgijpaaProg.lean LOADS. Nothing in Lean hashes anything: it is a label: what it is worth is what the hold of that sum in a sandbox is worth. -/
noncomputable def Try.pinned : Pinned := { name := "ytijeemdjcgijpaa", sum := "5163ec557e08a15433f5b2e2d3d76c8ae7f39d591e22340dbcf5eaacb2ec2cc6", checked := Try.checked }
namespace Rows
def none {H : Type} : Left H := { results := [], args := [] }

/-- 'magpielaw09.ArenaFresh': WHATEVER THE INPUT: true; the input reads as it did. -/
def arenaFreshSpec : ChangeSpec := { name := "arenaFresh", fn := fun _ => fun
  | [d] => { results := [.lit (.bool true)], args := [d] }
  | _ => none }
def arenaFreshRow : OpenClaim := { program := "ytijeemdjcgijpaa", sum := "5163ec557e08a15433f5b2e2d3d76c8ae7f39d591e22340dbcf5eaacb2ec2cc6", func := "magpie/magpielaw09.ArenaFresh", spec := "arenaFresh", apart := false }
def ArenaFreshSaid : Prop := arenaFreshRow.holds Try.pinned (OpenSpec.ofChange arenaFreshSpec)

/-- ITS FALSE NEIGHBOUR: 'it returns false'. Refute it at one input. -/
def arenaFreshWrong : ChangeSpec := { name := "arenaFresh", fn := fun _ => fun
  | [d] => { results := [.lit (.bool false)], args := [d] }
  | _ => none }
def ArenaFreshWrongFalsely : Prop := arenaFreshRow.holds Try.pinned (OpenSpec.ofChange arenaFreshWrong)

/-- 'magpielaw09.ArenaFaults': WHATEVER THE INPUT: true; the input reads as it did. -/
def arenaFaultsSpec : ChangeSpec := { name := "arenaFaults", fn := fun _ => fun
  | [d1, d2, d3] => { results := [.lit (.bool true)], args := [d1, d2, d3] }
  | _ => none }
def arenaFaultsRow : OpenClaim := { program := "ytijeemdjcgijpaa", sum := "5163ec557e08a15433f5b2e2d3d76c8ae7f39d591e22340dbcf5eaacb2ec2cc6", func := "magpie/magpielaw09.ArenaFaults", spec := "arenaFaults", apart := false }
def ArenaFaultsSaid : Prop := arenaFaultsRow.holds Try.pinned (OpenSpec.ofChange arenaFaultsSpec)

/-- ITS FALSE NEIGHBOUR: 'it returns false'. Refute it at one input. -/
def arenaFaultsWrong : ChangeSpec := { name := "arenaFaults", fn := fun _ => fun
  | [d1, d2, d3] => { results := [.lit (.bool false)], args := [d1, d2, d3] }
  | _ => none }
def ArenaFaultsWrongFalsely : Prop := arenaFaultsRow.holds Try.pinned (OpenSpec.ofChange arenaFaultsWrong)

/-- 'magpielaw09.ArenaRaws': WHATEVER THE INPUT: true; the input reads as it did. -/
def arenaRawsSpec : ChangeSpec := { name := "arenaRaws", fn := fun _ => fun
  | [d1, d2] => { results := [.lit (.bool true)], args := [d1, d2] }
  | _ => none }
def arenaRawsRow : OpenClaim := { program := "ytijeemdjcgijpaa", sum := "5163ec557e08a15433f5b2e2d3d76c8ae7f39d591e22340dbcf5eaacb2ec2cc6", func := "magpie/magpielaw09.ArenaRaws", spec := "arenaRaws", apart := false }
def ArenaRawsSaid : Prop := arenaRawsRow.holds Try.pinned (OpenSpec.ofChange arenaRawsSpec)

/-- ITS FALSE NEIGHBOUR: 'it returns false'. Refute it at one input. -/
def arenaRawsWrong : ChangeSpec := { name := "arenaRaws", fn := fun _ => fun
  | [d1, d2] => { results := [.lit (.bool false)], args := [d1, d2] }
  | _ => none }
def ArenaRawsWrongFalsely : Prop := arenaRawsRow.holds Try.pinned (OpenSpec.ofChange arenaRawsWrong)

/-- 'magpielaw11.SlabFull': WHATEVER THE INPUT: true; the input reads as it did. -/
def slabFullSpec : ChangeSpec := { name := "slabFull", fn := fun _ => fun
  | [d1, d2] => { results := [.lit (.bool true)], args := [d1, d2] }
  | _ => none }
def slabFullRow : OpenClaim := { program := "ytijeemdjcgijpaa", sum := "5163ec557e08a15433f5b2e2d3d76c8ae7f39d591e22340dbcf5eaacb2ec2cc6", func := "magpie/magpielaw11.SlabFull", spec := "slabFull", unfollowed := true, recurses := true, apart := false }
def SlabFullSaid : Prop := slabFullRow.holds Try.pinned (OpenSpec.ofChange slabFullSpec)

/-- ITS FALSE NEIGHBOUR: 'it returns false'. Refute it at one input. -/
def slabFullWrong : ChangeSpec := { name := "slabFull", fn := fun _ => fun
  | [d1, d2] => { results := [.lit (.bool false)], args := [d1, d2] }
  | _ => none }
def SlabFullWrongFalsely : Prop := slabFullRow.holds Try.pinned (OpenSpec.ofChange slabFullWrong)

/-- 'magpielaw11.SlabOne': WHATEVER THE INPUT: true; the input reads as it did. -/
def slabOneSpec : ChangeSpec := { name := "slabOne", fn := fun _ => fun
  | [d1, d2, d3] => { results := [.lit (.bool true)], args := [d1, d2, d3] }
  | _ => none }
def slabOneRow : OpenClaim := { program := "ytijeemdjcgijpaa", sum := "5163ec557e08a15433f5b2e2d3d76c8ae7f39d591e22340dbcf5eaacb2ec2cc6", func := "magpie/magpielaw11.SlabOne", spec := "slabOne", unfollowed := true, recurses := true, apart := false }
def SlabOneSaid : Prop := slabOneRow.holds Try.pinned (OpenSpec.ofChange slabOneSpec)

/-- ITS FALSE NEIGHBOUR: 'it returns false'. Refute it at one input. -/
def slabOneWrong : ChangeSpec := { name := "slabOne", fn := fun _ => fun
  | [d1, d2, d3] => { results := [.lit (.bool false)], args := [d1, d2, d3] }
  | _ => none }
def SlabOneWrongFalsely : Prop := slabOneRow.holds Try.pinned (OpenSpec.ofChange slabOneWrong)

/-- 'magpielaw11.SlabAgain': WHATEVER THE INPUT: true; the input reads as it did. -/
def slabAgainSpec : ChangeSpec := { name := "slabAgain", fn := fun _ => fun
  | [d1, d2, d3, d4, d5] => { results := [.lit (.bool true)], args := [d1, d2, d3, d4, d5] }
  | _ => none }
def slabAgainRow : OpenClaim := { program := "ytijeemdjcgijpaa", sum := "5163ec557e08a15433f5b2e2d3d76c8ae7f39d591e22340dbcf5eaacb2ec2cc6", func := "magpie/magpielaw11.SlabAgain", spec := "slabAgain", unfollowed := true, recurses := true, apart := false }
def SlabAgainSaid : Prop := slabAgainRow.holds Try.pinned (OpenSpec.ofChange slabAgainSpec)

/-- ITS FALSE NEIGHBOUR: 'it returns false'. Refute it at one input. -/
def slabAgainWrong : ChangeSpec := { name := "slabAgain", fn := fun _ => fun
  | [d1, d2, d3, d4, d5] => { results := [.lit (.bool false)], args := [d1, d2, d3, d4, d5] }
  | _ => none }
def SlabAgainWrongFalsely : Prop := slabAgainRow.holds Try.pinned (OpenSpec.ofChange slabAgainWrong)

/-- 'magpielaw11.SlabMixes': WHATEVER THE INPUT: true; the input reads as it did. -/
def slabMixesSpec : ChangeSpec := { name := "slabMixes", fn := fun _ => fun
  | [d1, d2, d3] => { results := [.lit (.bool true)], args := [d1, d2, d3] }
  | _ => none }
def slabMixesRow : OpenClaim := { program := "ytijeemdjcgijpaa", sum := "5163ec557e08a15433f5b2e2d3d76c8ae7f39d591e22340dbcf5eaacb2ec2cc6", func := "magpie/magpielaw11.SlabMixes", spec := "slabMixes", unfollowed := true, recurses := true, apart := false }
def SlabMixesSaid : Prop := slabMixesRow.holds Try.pinned (OpenSpec.ofChange slabMixesSpec)

/-- ITS FALSE NEIGHBOUR: 'it returns false'. Refute it at one input. -/
def slabMixesWrong : ChangeSpec := { name := "slabMixes", fn := fun _ => fun
  | [d1, d2, d3] => { results := [.lit (.bool false)], args := [d1, d2, d3] }
  | _ => none }
def SlabMixesWrongFalsely : Prop := slabMixesRow.holds Try.pinned (OpenSpec.ofChange slabMixesWrong)

/-- 'magpielaw12.HazardWords': WHATEVER THE INPUT: true; the input reads as it did. -/
def hazardWordsSpec : ChangeSpec := { name := "hazardWords", fn := fun _ => fun
  | [d1, d2, d3, d4] => { results := [.lit (.bool true)], args := [d1, d2, d3, d4] }
  | _ => none }
def hazardWordsRow : OpenClaim := { program := "ytijeemdjcgijpaa", sum := "5163ec557e08a15433f5b2e2d3d76c8ae7f39d591e22340dbcf5eaacb2ec2cc6", func := "magpie/magpielaw12.HazardWords", spec := "hazardWords", unfollowed := true, recurses := true, apart := false }
def HazardWordsSaid : Prop := hazardWordsRow.holds Try.pinned (OpenSpec.ofChange hazardWordsSpec)

/-- ITS FALSE NEIGHBOUR: 'it returns false'. Refute it at one input. -/
def hazardWordsWrong : ChangeSpec := { name := "hazardWords", fn := fun _ => fun
  | [d1, d2, d3, d4] => { results := [.lit (.bool false)], args := [d1, d2, d3, d4] }
  | _ => none }
def HazardWordsWrongFalsely : Prop := hazardWordsRow.holds Try.pinned (OpenSpec.ofChange hazardWordsWrong)

/-- 'magpielaw12.HazardOthers': WHATEVER THE INPUT: true; the input reads as it did. -/
def hazardOthersSpec : ChangeSpec := { name := "hazardOthers", fn := fun _ => fun
  | [d1, d2] => { results := [.lit (.bool true)], args := [d1, d2] }
  | _ => none }
def hazardOthersRow : OpenClaim := { program := "ytijeemdjcgijpaa", sum := "5163ec557e08a15433f5b2e2d3d76c8ae7f39d591e22340dbcf5eaacb2ec2cc6", func := "magpie/magpielaw12.HazardOthers", spec := "hazardOthers", unfollowed := true, recurses := true, apart := false }
def HazardOthersSaid : Prop := hazardOthersRow.holds Try.pinned (OpenSpec.ofChange hazardOthersSpec)

/-- ITS FALSE NEIGHBOUR: 'it returns false'. Refute it at one input. -/
def hazardOthersWrong : ChangeSpec := { name := "hazardOthers", fn := fun _ => fun
  | [d1, d2] => { results := [.lit (.bool false)], args := [d1, d2] }
  | _ => none }
def HazardOthersWrongFalsely : Prop := hazardOthersRow.holds Try.pinned (OpenSpec.ofChange hazardOthersWrong)

/-- 'magpielaw12.HazardTwice': WHATEVER THE INPUT: true; the input reads as it did. -/
def hazardTwiceSpec : ChangeSpec := { name := "hazardTwice", fn := fun _ => fun
  | [d1, d2, d3, d4] => { results := [.lit (.bool true)], args := [d1, d2, d3, d4] }
  | _ => none }
def hazardTwiceRow : OpenClaim := { program := "ytijeemdjcgijpaa", sum := "5163ec557e08a15433f5b2e2d3d76c8ae7f39d591e22340dbcf5eaacb2ec2cc6", func := "magpie/magpielaw12.HazardTwice", spec := "hazardTwice", unfollowed := true, recurses := true, apart := false }
def HazardTwiceSaid : Prop := hazardTwiceRow.holds Try.pinned (OpenSpec.ofChange hazardTwiceSpec)

/-- ITS FALSE NEIGHBOUR: 'it returns false'. Refute it at one input. -/
def hazardTwiceWrong : ChangeSpec := { name := "hazardTwice", fn := fun _ => fun
  | [d1, d2, d3, d4] => { results := [.lit (.bool false)], args := [d1, d2, d3, d4] }
  | _ => none }
def HazardTwiceWrongFalsely : Prop := hazardTwiceRow.holds Try.pinned (OpenSpec.ofChange hazardTwiceWrong)

/-- 'magpielaw12.HazardScans': WHATEVER THE INPUT: true; the input reads as it did. -/
def hazardScansSpec : ChangeSpec := { name := "hazardScans", fn := fun _ => fun
  | [d1, d2, d3, d4] => { results := [.lit (.bool true)], args := [d1, d2, d3, d4] }
  | _ => none }
def hazardScansRow : OpenClaim := { program := "ytijeemdjcgijpaa", sum := "5163ec557e08a15433f5b2e2d3d76c8ae7f39d591e22340dbcf5eaacb2ec2cc6", func := "magpie/magpielaw12.HazardScans", spec := "hazardScans", unfollowed := true, recurses := true, apart := false }
def HazardScansSaid : Prop := hazardScansRow.holds Try.pinned (OpenSpec.ofChange hazardScansSpec)

/-- ITS FALSE NEIGHBOUR: 'it returns false'. Refute it at one input. -/
def hazardScansWrong : ChangeSpec := { name := "hazardScans", fn := fun _ => fun
  | [d1, d2, d3, d4] => { results := [.lit (.bool false)], args := [d1, d2, d3, d4] }
  | _ => none }
def HazardScansWrongFalsely : Prop := hazardScansRow.holds Try.pinned (OpenSpec.ofChange hazardScansWrong)

/-- 'magpielaw12.HazardKeeps': WHATEVER THE INPUT: true; the input reads as it did. -/
def hazardKeepsSpec : ChangeSpec := { name := "hazardKeeps", fn := fun _ => fun
  | [d1, d2] => { results := [.lit (.bool true)], args := [d1, d2] }
  | _ => none }
def hazardKeepsRow : OpenClaim := { program := "ytijeemdjcgijpaa", sum := "5163ec557e08a15433f5b2e2d3d76c8ae7f39d591e22340dbcf5eaacb2ec2cc6", func := "magpie/magpielaw12.HazardKeeps", spec := "hazardKeeps", unfollowed := true, recurses := true, apart := false }
def HazardKeepsSaid : Prop := hazardKeepsRow.holds Try.pinned (OpenSpec.ofChange hazardKeepsSpec)

/-- ITS FALSE NEIGHBOUR: 'it returns false'. Refute it at one input. -/
def hazardKeepsWrong : ChangeSpec := { name := "hazardKeeps", fn := fun _ => fun
  | [d1, d2] => { results := [.lit (.bool false)], args := [d1, d2] }
  | _ => none }
def HazardKeepsWrongFalsely : Prop := hazardKeepsRow.holds Try.pinned (OpenSpec.ofChange hazardKeepsWrong)

/-- 'magpielaw13.EpochSteps': WHATEVER THE INPUT: true; the input reads as it did. -/
def epochStepsSpec : ChangeSpec := { name := "epochSteps", fn := fun _ => fun
  | [d1, d2] => { results := [.lit (.bool true)], args := [d1, d2] }
  | _ => none }
def epochStepsRow : OpenClaim := { program := "ytijeemdjcgijpaa", sum := "5163ec557e08a15433f5b2e2d3d76c8ae7f39d591e22340dbcf5eaacb2ec2cc6", func := "magpie/magpielaw13.EpochSteps", spec := "epochSteps", unfollowed := true, recurses := true, apart := false }
def EpochStepsSaid : Prop := epochStepsRow.holds Try.pinned (OpenSpec.ofChange epochStepsSpec)

/-- ITS FALSE NEIGHBOUR: 'it returns false'. Refute it at one input. -/
def epochStepsWrong : ChangeSpec := { name := "epochSteps", fn := fun _ => fun
  | [d1, d2] => { results := [.lit (.bool false)], args := [d1, d2] }
  | _ => none }
def EpochStepsWrongFalsely : Prop := epochStepsRow.holds Try.pinned (OpenSpec.ofChange epochStepsWrong)

/-- 'magpielaw13.EpochPins': WHATEVER THE INPUT: true; the input reads as it did. -/
def epochPinsSpec : ChangeSpec := { name := "epochPins", fn := fun _ => fun
  | [d1, d2, d3] => { results := [.lit (.bool true)], args := [d1, d2, d3] }
  | _ => none }
def epochPinsRow : OpenClaim := { program := "ytijeemdjcgijpaa", sum := "5163ec557e08a15433f5b2e2d3d76c8ae7f39d591e22340dbcf5eaacb2ec2cc6", func := "magpie/magpielaw13.EpochPins", spec := "epochPins", unfollowed := true, recurses := true, apart := false }
def EpochPinsSaid : Prop := epochPinsRow.holds Try.pinned (OpenSpec.ofChange epochPinsSpec)

/-- ITS FALSE NEIGHBOUR: 'it returns false'. Refute it at one input. -/
def epochPinsWrong : ChangeSpec := { name := "epochPins", fn := fun _ => fun
  | [d1, d2, d3] => { results := [.lit (.bool false)], args := [d1, d2, d3] }
  | _ => none }
def EpochPinsWrongFalsely : Prop := epochPinsRow.holds Try.pinned (OpenSpec.ofChange epochPinsWrong)

/-- 'magpielaw13.EpochTurns': WHATEVER THE INPUT: true; the input reads as it did. -/
def epochTurnsSpec : ChangeSpec := { name := "epochTurns", fn := fun _ => fun
  | [d1, d2, d3, d4] => { results := [.lit (.bool true)], args := [d1, d2, d3, d4] }
  | _ => none }
def epochTurnsRow : OpenClaim := { program := "ytijeemdjcgijpaa", sum := "5163ec557e08a15433f5b2e2d3d76c8ae7f39d591e22340dbcf5eaacb2ec2cc6", func := "magpie/magpielaw13.EpochTurns", spec := "epochTurns", unfollowed := true, recurses := true, apart := false }
def EpochTurnsSaid : Prop := epochTurnsRow.holds Try.pinned (OpenSpec.ofChange epochTurnsSpec)

/-- ITS FALSE NEIGHBOUR: 'it returns false'. Refute it at one input. -/
def epochTurnsWrong : ChangeSpec := { name := "epochTurns", fn := fun _ => fun
  | [d1, d2, d3, d4] => { results := [.lit (.bool false)], args := [d1, d2, d3, d4] }
  | _ => none }
def EpochTurnsWrongFalsely : Prop := epochTurnsRow.holds Try.pinned (OpenSpec.ofChange epochTurnsWrong)

/-- 'magpielaw13.EpochKeeps': WHATEVER THE INPUT: true; the input reads as it did. -/
def epochKeepsSpec : ChangeSpec := { name := "epochKeeps", fn := fun _ => fun
  | [d1, d2] => { results := [.lit (.bool true)], args := [d1, d2] }
  | _ => none }
def epochKeepsRow : OpenClaim := { program := "ytijeemdjcgijpaa", sum := "5163ec557e08a15433f5b2e2d3d76c8ae7f39d591e22340dbcf5eaacb2ec2cc6", func := "magpie/magpielaw13.EpochKeeps", spec := "epochKeeps", unfollowed := true, recurses := true, apart := false }
def EpochKeepsSaid : Prop := epochKeepsRow.holds Try.pinned (OpenSpec.ofChange epochKeepsSpec)

/-- ITS FALSE NEIGHBOUR: 'it returns false'. Refute it at one input. -/
def epochKeepsWrong : ChangeSpec := { name := "epochKeeps", fn := fun _ => fun
  | [d1, d2] => { results := [.lit (.bool false)], args := [d1, d2] }
  | _ => none }
def EpochKeepsWrongFalsely : Prop := epochKeepsRow.holds Try.pinned (OpenSpec.ofChange epochKeepsWrong)

/-- 'magpielaw14.GuardLeft': WHATEVER THE INPUT: true; the input reads as it did. -/
def guardLeftSpec : ChangeSpec := { name := "guardLeft", fn := fun _ => fun
  | [d1, d2] => { results := [.lit (.bool true)], args := [d1, d2] }
  | _ => none }
def guardLeftRow : OpenClaim := { program := "ytijeemdjcgijpaa", sum := "5163ec557e08a15433f5b2e2d3d76c8ae7f39d591e22340dbcf5eaacb2ec2cc6", func := "magpie/magpielaw14.GuardLeft", spec := "guardLeft", unfollowed := true, recurses := true, apart := false }
def GuardLeftSaid : Prop := guardLeftRow.holds Try.pinned (OpenSpec.ofChange guardLeftSpec)

/-- ITS FALSE NEIGHBOUR: 'it returns false'. Refute it at one input. -/
def guardLeftWrong : ChangeSpec := { name := "guardLeft", fn := fun _ => fun
  | [d1, d2] => { results := [.lit (.bool false)], args := [d1, d2] }
  | _ => none }
def GuardLeftWrongFalsely : Prop := guardLeftRow.holds Try.pinned (OpenSpec.ofChange guardLeftWrong)

/-- 'magpielaw14.GuardForces': WHATEVER THE INPUT: true; the input reads as it did. -/
def guardForcesSpec : ChangeSpec := { name := "guardForces", fn := fun _ => fun
  | [d1, d2, d3] => { results := [.lit (.bool true)], args := [d1, d2, d3] }
  | _ => none }
def guardForcesRow : OpenClaim := { program := "ytijeemdjcgijpaa", sum := "5163ec557e08a15433f5b2e2d3d76c8ae7f39d591e22340dbcf5eaacb2ec2cc6", func := "magpie/magpielaw14.GuardForces", spec := "guardForces", unfollowed := true, recurses := true, apart := false }
def GuardForcesSaid : Prop := guardForcesRow.holds Try.pinned (OpenSpec.ofChange guardForcesSpec)

/-- ITS FALSE NEIGHBOUR: 'it returns false'. Refute it at one input. -/
def guardForcesWrong : ChangeSpec := { name := "guardForces", fn := fun _ => fun
  | [d1, d2, d3] => { results := [.lit (.bool false)], args := [d1, d2, d3] }
  | _ => none }
def GuardForcesWrongFalsely : Prop := guardForcesRow.holds Try.pinned (OpenSpec.ofChange guardForcesWrong)

/-- 'magpielaw14.GuardModes': WHATEVER THE INPUT: true; the input reads as it did. -/
def guardModesSpec : ChangeSpec := { name := "guardModes", fn := fun _ => fun
  | [d1, d2, d3, d4] => { results := [.lit (.bool true)], args := [d1, d2, d3, d4] }
  | _ => none }
def guardModesRow : OpenClaim := { program := "ytijeemdjcgijpaa", sum := "5163ec557e08a15433f5b2e2d3d76c8ae7f39d591e22340dbcf5eaacb2ec2cc6", func := "magpie/magpielaw14.GuardModes", spec := "guardModes", unfollowed := true, recurses := true, apart := false }
def GuardModesSaid : Prop := guardModesRow.holds Try.pinned (OpenSpec.ofChange guardModesSpec)

/-- ITS FALSE NEIGHBOUR: 'it returns false'. Refute it at one input. -/
def guardModesWrong : ChangeSpec := { name := "guardModes", fn := fun _ => fun
  | [d1, d2, d3, d4] => { results := [.lit (.bool false)], args := [d1, d2, d3, d4] }
  | _ => none }
def GuardModesWrongFalsely : Prop := guardModesRow.holds Try.pinned (OpenSpec.ofChange guardModesWrong)

/-- 'magpielaw14.GuardBounds': WHATEVER THE INPUT: true; the input reads as it did. -/
def guardBoundsSpec : ChangeSpec := { name := "guardBounds", fn := fun _ => fun
  | [d1, d2, d3, d4] => { results := [.lit (.bool true)], args := [d1, d2, d3, d4] }
  | _ => none }
def guardBoundsRow : OpenClaim := { program := "ytijeemdjcgijpaa", sum := "5163ec557e08a15433f5b2e2d3d76c8ae7f39d591e22340dbcf5eaacb2ec2cc6", func := "magpie/magpielaw14.GuardBounds", spec := "guardBounds", unfollowed := true, recurses := true, apart := false }
def GuardBoundsSaid : Prop := guardBoundsRow.holds Try.pinned (OpenSpec.ofChange guardBoundsSpec)

/-- ITS FALSE NEIGHBOUR: 'it returns false'. Refute it at one input. -/
def guardBoundsWrong : ChangeSpec := { name := "guardBounds", fn := fun _ => fun
  | [d1, d2, d3, d4] => { results := [.lit (.bool false)], args := [d1, d2, d3, d4] }
  | _ => none }
def GuardBoundsWrongFalsely : Prop := guardBoundsRow.holds Try.pinned (OpenSpec.ofChange guardBoundsWrong)

/-- 'magpielaw16.DequeRetires': WHATEVER THE INPUT: true; the input reads as it did. -/
def dequeRetiresSpec : ChangeSpec := { name := "dequeRetires", fn := fun _ => fun
  | [d] => { results := [.lit (.bool true)], args := [d] }
  | _ => none }
def dequeRetiresRow : OpenClaim := { program := "ytijeemdjcgijpaa", sum := "5163ec557e08a15433f5b2e2d3d76c8ae7f39d591e22340dbcf5eaacb2ec2cc6", func := "magpie/magpielaw16.DequeRetires", spec := "dequeRetires", unfollowed := true, recurses := true, apart := false }
def DequeRetiresSaid : Prop := dequeRetiresRow.holds Try.pinned (OpenSpec.ofChange dequeRetiresSpec)

/-- ITS FALSE NEIGHBOUR: 'it returns false'. Refute it at one input. -/
def dequeRetiresWrong : ChangeSpec := { name := "dequeRetires", fn := fun _ => fun
  | [d] => { results := [.lit (.bool false)], args := [d] }
  | _ => none }
def DequeRetiresWrongFalsely : Prop := dequeRetiresRow.holds Try.pinned (OpenSpec.ofChange dequeRetiresWrong)

/-- 'magpielaw16.DequeStacks': WHATEVER THE INPUT: true; the input reads as it did. -/
def dequeStacksSpec : ChangeSpec := { name := "dequeStacks", fn := fun _ => fun
  | [d1, d2, d3, d4] => { results := [.lit (.bool true)], args := [d1, d2, d3, d4] }
  | _ => none }
def dequeStacksRow : OpenClaim := { program := "ytijeemdjcgijpaa", sum := "5163ec557e08a15433f5b2e2d3d76c8ae7f39d591e22340dbcf5eaacb2ec2cc6", func := "magpie/magpielaw16.DequeStacks", spec := "dequeStacks", unfollowed := true, recurses := true, apart := false }
def DequeStacksSaid : Prop := dequeStacksRow.holds Try.pinned (OpenSpec.ofChange dequeStacksSpec)

/-- ITS FALSE NEIGHBOUR: 'it returns false'. Refute it at one input. -/
def dequeStacksWrong : ChangeSpec := { name := "dequeStacks", fn := fun _ => fun
  | [d1, d2, d3, d4] => { results := [.lit (.bool false)], args := [d1, d2, d3, d4] }
  | _ => none }
def DequeStacksWrongFalsely : Prop := dequeStacksRow.holds Try.pinned (OpenSpec.ofChange dequeStacksWrong)

/-- 'magpielaw16.DequeGrows': WHATEVER THE INPUT: true; the input reads as it did. -/
def dequeGrowsSpec : ChangeSpec := { name := "dequeGrows", fn := fun _ => fun
  | [d1, d2, d3] => { results := [.lit (.bool true)], args := [d1, d2, d3] }
  | _ => none }
def dequeGrowsRow : OpenClaim := { program := "ytijeemdjcgijpaa", sum := "5163ec557e08a15433f5b2e2d3d76c8ae7f39d591e22340dbcf5eaacb2ec2cc6", func := "magpie/magpielaw16.DequeGrows", spec := "dequeGrows", unfollowed := true, recurses := true, apart := false }
def DequeGrowsSaid : Prop := dequeGrowsRow.holds Try.pinned (OpenSpec.ofChange dequeGrowsSpec)

/-- ITS FALSE NEIGHBOUR: 'it returns false'. Refute it at one input. -/
def dequeGrowsWrong : ChangeSpec := { name := "dequeGrows", fn := fun _ => fun
  | [d1, d2, d3] => { results := [.lit (.bool false)], args := [d1, d2, d3] }
  | _ => none }
def DequeGrowsWrongFalsely : Prop := dequeGrowsRow.holds Try.pinned (OpenSpec.ofChange dequeGrowsWrong)

/-- 'magpielaw16.DequeWords': WHATEVER THE INPUT: true; the input reads as it did. -/
def dequeWordsSpec : ChangeSpec := { name := "dequeWords", fn := fun _ => fun
  | [d1, d2, d3] => { results := [.lit (.bool true)], args := [d1, d2, d3] }
  | _ => none }
def dequeWordsRow : OpenClaim := { program := "ytijeemdjcgijpaa", sum := "5163ec557e08a15433f5b2e2d3d76c8ae7f39d591e22340dbcf5eaacb2ec2cc6", func := "magpie/magpielaw16.DequeWords", spec := "dequeWords", unfollowed := true, recurses := true, apart := false }
def DequeWordsSaid : Prop := dequeWordsRow.holds Try.pinned (OpenSpec.ofChange dequeWordsSpec)

/-- ITS FALSE NEIGHBOUR: 'it returns false'. Refute it at one input. -/
def dequeWordsWrong : ChangeSpec := { name := "dequeWords", fn := fun _ => fun
  | [d1, d2, d3] => { results := [.lit (.bool false)], args := [d1, d2, d3] }
  | _ => none }
def DequeWordsWrongFalsely : Prop := dequeWordsRow.holds Try.pinned (OpenSpec.ofChange dequeWordsWrong)

/-- 'magpielaw16.DequeEmpty': WHATEVER THE INPUT: true; the input reads as it did. -/
def dequeEmptySpec : ChangeSpec := { name := "dequeEmpty", fn := fun _ => fun
  | [d1, d2, d3] => { results := [.lit (.bool true)], args := [d1, d2, d3] }
  | _ => none }
def dequeEmptyRow : OpenClaim := { program := "ytijeemdjcgijpaa", sum := "5163ec557e08a15433f5b2e2d3d76c8ae7f39d591e22340dbcf5eaacb2ec2cc6", func := "magpie/magpielaw16.DequeEmpty", spec := "dequeEmpty", unfollowed := true, recurses := true, apart := false }
def DequeEmptySaid : Prop := dequeEmptyRow.holds Try.pinned (OpenSpec.ofChange dequeEmptySpec)

/-- ITS FALSE NEIGHBOUR: 'it returns false'. Refute it at one input. -/
def dequeEmptyWrong : ChangeSpec := { name := "dequeEmpty", fn := fun _ => fun
  | [d1, d2, d3] => { results := [.lit (.bool false)], args := [d1, d2, d3] }
  | _ => none }
def DequeEmptyWrongFalsely : Prop := dequeEmptyRow.holds Try.pinned (OpenSpec.ofChange dequeEmptyWrong)

/-- 'magpielaw18.FrameWords': WHATEVER THE INPUT: true; the input reads as it did. -/
def frameWordsSpec : ChangeSpec := { name := "frameWords", fn := fun _ => fun
  | [d1, d2, d3, d4, d5] => { results := [.lit (.bool true)], args := [d1, d2, d3, d4, d5] }
  | _ => none }
def frameWordsRow : OpenClaim := { program := "ytijeemdjcgijpaa", sum := "5163ec557e08a15433f5b2e2d3d76c8ae7f39d591e22340dbcf5eaacb2ec2cc6", func := "magpie/magpielaw18.FrameWords", spec := "frameWords", unfollowed := true, recurses := true, apart := false }
def FrameWordsSaid : Prop := frameWordsRow.holds Try.pinned (OpenSpec.ofChange frameWordsSpec)

/-- ITS FALSE NEIGHBOUR: 'it returns false'. Refute it at one input. -/
def frameWordsWrong : ChangeSpec := { name := "frameWords", fn := fun _ => fun
  | [d1, d2, d3, d4, d5] => { results := [.lit (.bool false)], args := [d1, d2, d3, d4, d5] }
  | _ => none }
def FrameWordsWrongFalsely : Prop := frameWordsRow.holds Try.pinned (OpenSpec.ofChange frameWordsWrong)

/-- 'magpielaw18.FrameRooms': WHATEVER THE INPUT: true; the input reads as it did. -/
def frameRoomsSpec : ChangeSpec := { name := "frameRooms", fn := fun _ => fun
  | [d1, d2, d3] => { results := [.lit (.bool true)], args := [d1, d2, d3] }
  | _ => none }
def frameRoomsRow : OpenClaim := { program := "ytijeemdjcgijpaa", sum := "5163ec557e08a15433f5b2e2d3d76c8ae7f39d591e22340dbcf5eaacb2ec2cc6", func := "magpie/magpielaw18.FrameRooms", spec := "frameRooms", unfollowed := true, recurses := true, apart := false }
def FrameRoomsSaid : Prop := frameRoomsRow.holds Try.pinned (OpenSpec.ofChange frameRoomsSpec)

/-- ITS FALSE NEIGHBOUR: 'it returns false'. Refute it at one input. -/
def frameRoomsWrong : ChangeSpec := { name := "frameRooms", fn := fun _ => fun
  | [d1, d2, d3] => { results := [.lit (.bool false)], args := [d1, d2, d3] }
  | _ => none }
def FrameRoomsWrongFalsely : Prop := frameRoomsRow.holds Try.pinned (OpenSpec.ofChange frameRoomsWrong)

/-- 'magpielaw19.FutureSteps': WHATEVER THE INPUT: true; the input reads as it did. -/
def futureStepsSpec : ChangeSpec := { name := "futureSteps", fn := fun _ => fun
  | [d1, d2, d3] => { results := [.lit (.bool true)], args := [d1, d2, d3] }
  | _ => none }
def futureStepsRow : OpenClaim := { program := "ytijeemdjcgijpaa", sum := "5163ec557e08a15433f5b2e2d3d76c8ae7f39d591e22340dbcf5eaacb2ec2cc6", func := "magpie/magpielaw19.FutureSteps", spec := "futureSteps", unfollowed := true, recurses := true, apart := false }
def FutureStepsSaid : Prop := futureStepsRow.holds Try.pinned (OpenSpec.ofChange futureStepsSpec)

/-- ITS FALSE NEIGHBOUR: 'it returns false'. Refute it at one input. -/
def futureStepsWrong : ChangeSpec := { name := "futureSteps", fn := fun _ => fun
  | [d1, d2, d3] => { results := [.lit (.bool false)], args := [d1, d2, d3] }
  | _ => none }
def FutureStepsWrongFalsely : Prop := futureStepsRow.holds Try.pinned (OpenSpec.ofChange futureStepsWrong)

/-- 'magpielaw19.FutureOnce': WHATEVER THE INPUT: true; the input reads as it did. -/
def futureOnceSpec : ChangeSpec := { name := "futureOnce", fn := fun _ => fun
  | [d1, d2, d3] => { results := [.lit (.bool true)], args := [d1, d2, d3] }
  | _ => none }
def futureOnceRow : OpenClaim := { program := "ytijeemdjcgijpaa", sum := "5163ec557e08a15433f5b2e2d3d76c8ae7f39d591e22340dbcf5eaacb2ec2cc6", func := "magpie/magpielaw19.FutureOnce", spec := "futureOnce", unfollowed := true, recurses := true, apart := false }
def FutureOnceSaid : Prop := futureOnceRow.holds Try.pinned (OpenSpec.ofChange futureOnceSpec)

/-- ITS FALSE NEIGHBOUR: 'it returns false'. Refute it at one input. -/
def futureOnceWrong : ChangeSpec := { name := "futureOnce", fn := fun _ => fun
  | [d1, d2, d3] => { results := [.lit (.bool false)], args := [d1, d2, d3] }
  | _ => none }
def FutureOnceWrongFalsely : Prop := futureOnceRow.holds Try.pinned (OpenSpec.ofChange futureOnceWrong)

/-- 'magpielaw19.FutureMany': WHATEVER THE INPUT: true; the input reads as it did. -/
def futureManySpec : ChangeSpec := { name := "futureMany", fn := fun _ => fun
  | [d1, d2, d3] => { results := [.lit (.bool true)], args := [d1, d2, d3] }
  | _ => none }
def futureManyRow : OpenClaim := { program := "ytijeemdjcgijpaa", sum := "5163ec557e08a15433f5b2e2d3d76c8ae7f39d591e22340dbcf5eaacb2ec2cc6", func := "magpie/magpielaw19.FutureMany", spec := "futureMany", unfollowed := true, recurses := true, apart := false }
def FutureManySaid : Prop := futureManyRow.holds Try.pinned (OpenSpec.ofChange futureManySpec)

/-- ITS FALSE NEIGHBOUR: 'it returns false'. Refute it at one input. -/
def futureManyWrong : ChangeSpec := { name := "futureMany", fn := fun _ => fun
  | [d1, d2, d3] => { results := [.lit (.bool false)], args := [d1, d2, d3] }
  | _ => none }
def FutureManyWrongFalsely : Prop := futureManyRow.holds Try.pinned (OpenSpec.ofChange futureManyWrong)

/-- 'magpielaw18.FrameLives': WHATEVER THE INPUT: true; the input reads as it did. -/
def frameLivesSpec : ChangeSpec := { name := "frameLives", fn := fun _ => fun
  | [d1, d2, d3, d4, d5] => { results := [.lit (.bool true)], args := [d1, d2, d3, d4, d5] }
  | _ => none }
def frameLivesRow : OpenClaim := { program := "ytijeemdjcgijpaa", sum := "5163ec557e08a15433f5b2e2d3d76c8ae7f39d591e22340dbcf5eaacb2ec2cc6", func := "magpie/magpielaw18.FrameLives", spec := "frameLives", unfollowed := true, recurses := true, apart := false }
def FrameLivesSaid : Prop := frameLivesRow.holds Try.pinned (OpenSpec.ofChange frameLivesSpec)

/-- ITS FALSE NEIGHBOUR: 'it returns false'. Refute it at one input. -/
def frameLivesWrong : ChangeSpec := { name := "frameLives", fn := fun _ => fun
  | [d1, d2, d3, d4, d5] => { results := [.lit (.bool false)], args := [d1, d2, d3, d4, d5] }
  | _ => none }
def FrameLivesWrongFalsely : Prop := frameLivesRow.holds Try.pinned (OpenSpec.ofChange frameLivesWrong)

/-- 'magpielaw18.FrameBoth': WHATEVER THE INPUT: true; the input reads as it did. -/
def frameBothSpec : ChangeSpec := { name := "frameBoth", fn := fun _ => fun
  | [d1, d2, d3] => { results := [.lit (.bool true)], args := [d1, d2, d3] }
  | _ => none }
def frameBothRow : OpenClaim := { program := "ytijeemdjcgijpaa", sum := "5163ec557e08a15433f5b2e2d3d76c8ae7f39d591e22340dbcf5eaacb2ec2cc6", func := "magpie/magpielaw18.FrameBoth", spec := "frameBoth", unfollowed := true, recurses := true, apart := false }
def FrameBothSaid : Prop := frameBothRow.holds Try.pinned (OpenSpec.ofChange frameBothSpec)

/-- ITS FALSE NEIGHBOUR: 'it returns false'. Refute it at one input. -/
def frameBothWrong : ChangeSpec := { name := "frameBoth", fn := fun _ => fun
  | [d1, d2, d3] => { results := [.lit (.bool false)], args := [d1, d2, d3] }
  | _ => none }
def FrameBothWrongFalsely : Prop := frameBothRow.holds Try.pinned (OpenSpec.ofChange frameBothWrong)

/- THE SECOND FORM. 'bulk': how many values and letters a reading holds, each counted each time it is reached (what is shared counts as often as it is met; a slice's spare places count too). A statement '..UptoSaid' is the law's where the arguments, and the package variables that the reading takes, are together of bulk at most 1048576: NARROWER than '..Said'. Prove '..Said' where nothing that the law and all that it calls make is longer than what came in: it says more and counts as full. Else prove '..UptoSaid'. A law counts once. -/
mutual
def uptoBulk {H : Type} : DataW H → Nat
  | .lit (.string bytes) => bytes.length + 1
  | .lit _ => 1
  | .nil => 1
  | .ptr d => uptoBulk d + 1
  | .slice elems spare => uptoBulkAll elems + uptoBulkAll spare + 1
  | .agg parts => uptoBulkAll parts + 1
  | .iface _ d => uptoBulk d + 1
  | .map entries => uptoBulkEntries entries + 1
  | .held _ => 1
def uptoBulkAll {H : Type} : List (DataW H) → Nat
  | [] => 0
  | d :: r => uptoBulk d + uptoBulkAll r
def uptoBulkEntries {H : Type} : List (Lit × DataW H) → Nat
  | [] => 0
  | x :: r => uptoBulkEntry x + uptoBulkEntries r
def uptoBulkEntry {H : Type} : Lit × DataW H → Nat
  | (.string bytes, d) => bytes.length + uptoBulk d + 1
  | (_, d) => uptoBulk d + 1
 end
def uptoSmall : (H : Type) → List (DataW H) → Bool := fun _ ds => decide (uptoBulkAll ds ≤ 1048576)
def OpenSpec.upto (s : _root_.Go.ChangeSpec) : _root_.Go.OpenSpec := { _root_.Go.OpenSpec.ofChange s with cond := some uptoSmall }

/-- 'magpielaw09.ArenaFresh', WHERE WHAT IT READS IS OF BULK AT MOST 1048576: true; the input reads as it did. -/
def arenaFreshUptoRow : OpenClaim := { program := "ytijeemdjcgijpaa", sum := "5163ec557e08a15433f5b2e2d3d76c8ae7f39d591e22340dbcf5eaacb2ec2cc6", func := "magpie/magpielaw09.ArenaFresh", spec := "arenaFresh", apart := false, narrowed := true }
def ArenaFreshUptoSaid : Prop := arenaFreshUptoRow.holds Try.pinned (OpenSpec.upto arenaFreshSpec)

/-- 'magpielaw09.ArenaFaults', WHERE WHAT IT READS IS OF BULK AT MOST 1048576: true; the input reads as it did. -/
def arenaFaultsUptoRow : OpenClaim := { program := "ytijeemdjcgijpaa", sum := "5163ec557e08a15433f5b2e2d3d76c8ae7f39d591e22340dbcf5eaacb2ec2cc6", func := "magpie/magpielaw09.ArenaFaults", spec := "arenaFaults", apart := false, narrowed := true }
def ArenaFaultsUptoSaid : Prop := arenaFaultsUptoRow.holds Try.pinned (OpenSpec.upto arenaFaultsSpec)

/-- 'magpielaw09.ArenaRaws', WHERE WHAT IT READS IS OF BULK AT MOST 1048576: true; the input reads as it did. -/
def arenaRawsUptoRow : OpenClaim := { program := "ytijeemdjcgijpaa", sum := "5163ec557e08a15433f5b2e2d3d76c8ae7f39d591e22340dbcf5eaacb2ec2cc6", func := "magpie/magpielaw09.ArenaRaws", spec := "arenaRaws", apart := false, narrowed := true }
def ArenaRawsUptoSaid : Prop := arenaRawsUptoRow.holds Try.pinned (OpenSpec.upto arenaRawsSpec)

/-- 'magpielaw11.SlabFull', WHERE WHAT IT READS IS OF BULK AT MOST 1048576: true; the input reads as it did. -/
def slabFullUptoRow : OpenClaim := { program := "ytijeemdjcgijpaa", sum := "5163ec557e08a15433f5b2e2d3d76c8ae7f39d591e22340dbcf5eaacb2ec2cc6", func := "magpie/magpielaw11.SlabFull", spec := "slabFull", unfollowed := true, recurses := true, apart := false, narrowed := true }
def SlabFullUptoSaid : Prop := slabFullUptoRow.holds Try.pinned (OpenSpec.upto slabFullSpec)

/-- 'magpielaw11.SlabOne', WHERE WHAT IT READS IS OF BULK AT MOST 1048576: true; the input reads as it did. -/
def slabOneUptoRow : OpenClaim := { program := "ytijeemdjcgijpaa", sum := "5163ec557e08a15433f5b2e2d3d76c8ae7f39d591e22340dbcf5eaacb2ec2cc6", func := "magpie/magpielaw11.SlabOne", spec := "slabOne", unfollowed := true, recurses := true, apart := false, narrowed := true }
def SlabOneUptoSaid : Prop := slabOneUptoRow.holds Try.pinned (OpenSpec.upto slabOneSpec)

/-- 'magpielaw11.SlabAgain', WHERE WHAT IT READS IS OF BULK AT MOST 1048576: true; the input reads as it did. -/
def slabAgainUptoRow : OpenClaim := { program := "ytijeemdjcgijpaa", sum := "5163ec557e08a15433f5b2e2d3d76c8ae7f39d591e22340dbcf5eaacb2ec2cc6", func := "magpie/magpielaw11.SlabAgain", spec := "slabAgain", unfollowed := true, recurses := true, apart := false, narrowed := true }
def SlabAgainUptoSaid : Prop := slabAgainUptoRow.holds Try.pinned (OpenSpec.upto slabAgainSpec)

/-- 'magpielaw11.SlabMixes', WHERE WHAT IT READS IS OF BULK AT MOST 1048576: true; the input reads as it did. -/
def slabMixesUptoRow : OpenClaim := { program := "ytijeemdjcgijpaa", sum := "5163ec557e08a15433f5b2e2d3d76c8ae7f39d591e22340dbcf5eaacb2ec2cc6", func := "magpie/magpielaw11.SlabMixes", spec := "slabMixes", unfollowed := true, recurses := true, apart := false, narrowed := true }
def SlabMixesUptoSaid : Prop := slabMixesUptoRow.holds Try.pinned (OpenSpec.upto slabMixesSpec)

/-- 'magpielaw12.HazardWords', WHERE WHAT IT READS IS OF BULK AT MOST 1048576: true; the input reads as it did. -/
def hazardWordsUptoRow : OpenClaim := { program := "ytijeemdjcgijpaa", sum := "5163ec557e08a15433f5b2e2d3d76c8ae7f39d591e22340dbcf5eaacb2ec2cc6", func := "magpie/magpielaw12.HazardWords", spec := "hazardWords", unfollowed := true, recurses := true, apart := false, narrowed := true }
def HazardWordsUptoSaid : Prop := hazardWordsUptoRow.holds Try.pinned (OpenSpec.upto hazardWordsSpec)

/-- 'magpielaw12.HazardOthers', WHERE WHAT IT READS IS OF BULK AT MOST 1048576: true; the input reads as it did. -/
def hazardOthersUptoRow : OpenClaim := { program := "ytijeemdjcgijpaa", sum := "5163ec557e08a15433f5b2e2d3d76c8ae7f39d591e22340dbcf5eaacb2ec2cc6", func := "magpie/magpielaw12.HazardOthers", spec := "hazardOthers", unfollowed := true, recurses := true, apart := false, narrowed := true }
def HazardOthersUptoSaid : Prop := hazardOthersUptoRow.holds Try.pinned (OpenSpec.upto hazardOthersSpec)

/-- 'magpielaw12.HazardTwice', WHERE WHAT IT READS IS OF BULK AT MOST 1048576: true; the input reads as it did. -/
def hazardTwiceUptoRow : OpenClaim := { program := "ytijeemdjcgijpaa", sum := "5163ec557e08a15433f5b2e2d3d76c8ae7f39d591e22340dbcf5eaacb2ec2cc6", func := "magpie/magpielaw12.HazardTwice", spec := "hazardTwice", unfollowed := true, recurses := true, apart := false, narrowed := true }
def HazardTwiceUptoSaid : Prop := hazardTwiceUptoRow.holds Try.pinned (OpenSpec.upto hazardTwiceSpec)

/-- 'magpielaw12.HazardScans', WHERE WHAT IT READS IS OF BULK AT MOST 1048576: true; the input reads as it did. -/
def hazardScansUptoRow : OpenClaim := { program := "ytijeemdjcgijpaa", sum := "5163ec557e08a15433f5b2e2d3d76c8ae7f39d591e22340dbcf5eaacb2ec2cc6", func := "magpie/magpielaw12.HazardScans", spec := "hazardScans", unfollowed := true, recurses := true, apart := false, narrowed := true }
def HazardScansUptoSaid : Prop := hazardScansUptoRow.holds Try.pinned (OpenSpec.upto hazardScansSpec)

/-- 'magpielaw12.HazardKeeps', WHERE WHAT IT READS IS OF BULK AT MOST 1048576: true; the input reads as it did. -/
def hazardKeepsUptoRow : OpenClaim := { program := "ytijeemdjcgijpaa", sum := "5163ec557e08a15433f5b2e2d3d76c8ae7f39d591e22340dbcf5eaacb2ec2cc6", func := "magpie/magpielaw12.HazardKeeps", spec := "hazardKeeps", unfollowed := true, recurses := true, apart := false, narrowed := true }
def HazardKeepsUptoSaid : Prop := hazardKeepsUptoRow.holds Try.pinned (OpenSpec.upto hazardKeepsSpec)

/-- 'magpielaw13.EpochSteps', WHERE WHAT IT READS IS OF BULK AT MOST 1048576: true; the input reads as it did. -/
def epochStepsUptoRow : OpenClaim := { program := "ytijeemdjcgijpaa", sum := "5163ec557e08a15433f5b2e2d3d76c8ae7f39d591e22340dbcf5eaacb2ec2cc6", func := "magpie/magpielaw13.EpochSteps", spec := "epochSteps", unfollowed := true, recurses := true, apart := false, narrowed := true }
def EpochStepsUptoSaid : Prop := epochStepsUptoRow.holds Try.pinned (OpenSpec.upto epochStepsSpec)

/-- 'magpielaw13.EpochPins', WHERE WHAT IT READS IS OF BULK AT MOST 1048576: true; the input reads as it did. -/
def epochPinsUptoRow : OpenClaim := { program := "ytijeemdjcgijpaa", sum := "5163ec557e08a15433f5b2e2d3d76c8ae7f39d591e22340dbcf5eaacb2ec2cc6", func := "magpie/magpielaw13.EpochPins", spec := "epochPins", unfollowed := true, recurses := true, apart := false, narrowed := true }
def EpochPinsUptoSaid : Prop := epochPinsUptoRow.holds Try.pinned (OpenSpec.upto epochPinsSpec)

/-- 'magpielaw13.EpochTurns', WHERE WHAT IT READS IS OF BULK AT MOST 1048576: true; the input reads as it did. -/
def epochTurnsUptoRow : OpenClaim := { program := "ytijeemdjcgijpaa", sum := "5163ec557e08a15433f5b2e2d3d76c8ae7f39d591e22340dbcf5eaacb2ec2cc6", func := "magpie/magpielaw13.EpochTurns", spec := "epochTurns", unfollowed := true, recurses := true, apart := false, narrowed := true }
def EpochTurnsUptoSaid : Prop := epochTurnsUptoRow.holds Try.pinned (OpenSpec.upto epochTurnsSpec)

/-- 'magpielaw13.EpochKeeps', WHERE WHAT IT READS IS OF BULK AT MOST 1048576: true; the input reads as it did. -/
def epochKeepsUptoRow : OpenClaim := { program := "ytijeemdjcgijpaa", sum := "5163ec557e08a15433f5b2e2d3d76c8ae7f39d591e22340dbcf5eaacb2ec2cc6", func := "magpie/magpielaw13.EpochKeeps", spec := "epochKeeps", unfollowed := true, recurses := true, apart := false, narrowed := true }
def EpochKeepsUptoSaid : Prop := epochKeepsUptoRow.holds Try.pinned (OpenSpec.upto epochKeepsSpec)

/-- 'magpielaw14.GuardLeft', WHERE WHAT IT READS IS OF BULK AT MOST 1048576: true; the input reads as it did. -/
def guardLeftUptoRow : OpenClaim := { program := "ytijeemdjcgijpaa", sum := "5163ec557e08a15433f5b2e2d3d76c8ae7f39d591e22340dbcf5eaacb2ec2cc6", func := "magpie/magpielaw14.GuardLeft", spec := "guardLeft", unfollowed := true, recurses := true, apart := false, narrowed := true }
def GuardLeftUptoSaid : Prop := guardLeftUptoRow.holds Try.pinned (OpenSpec.upto guardLeftSpec)

/-- 'magpielaw14.GuardForces', WHERE WHAT IT READS IS OF BULK AT MOST 1048576: true; the input reads as it did. -/
def guardForcesUptoRow : OpenClaim := { program := "ytijeemdjcgijpaa", sum := "5163ec557e08a15433f5b2e2d3d76c8ae7f39d591e22340dbcf5eaacb2ec2cc6", func := "magpie/magpielaw14.GuardForces", spec := "guardForces", unfollowed := true, recurses := true, apart := false, narrowed := true }
def GuardForcesUptoSaid : Prop := guardForcesUptoRow.holds Try.pinned (OpenSpec.upto guardForcesSpec)

/-- 'magpielaw14.GuardModes', WHERE WHAT IT READS IS OF BULK AT MOST 1048576: true; the input reads as it did. -/
def guardModesUptoRow : OpenClaim := { program := "ytijeemdjcgijpaa", sum := "5163ec557e08a15433f5b2e2d3d76c8ae7f39d591e22340dbcf5eaacb2ec2cc6", func := "magpie/magpielaw14.GuardModes", spec := "guardModes", unfollowed := true, recurses := true, apart := false, narrowed := true }
def GuardModesUptoSaid : Prop := guardModesUptoRow.holds Try.pinned (OpenSpec.upto guardModesSpec)

/-- 'magpielaw14.GuardBounds', WHERE WHAT IT READS IS OF BULK AT MOST 1048576: true; the input reads as it did. -/
def guardBoundsUptoRow : OpenClaim := { program := "ytijeemdjcgijpaa", sum := "5163ec557e08a15433f5b2e2d3d76c8ae7f39d591e22340dbcf5eaacb2ec2cc6", func := "magpie/magpielaw14.GuardBounds", spec := "guardBounds", unfollowed := true, recurses := true, apart := false, narrowed := true }
def GuardBoundsUptoSaid : Prop := guardBoundsUptoRow.holds Try.pinned (OpenSpec.upto guardBoundsSpec)

/-- 'magpielaw16.DequeRetires', WHERE WHAT IT READS IS OF BULK AT MOST 1048576: true; the input reads as it did. -/
def dequeRetiresUptoRow : OpenClaim := { program := "ytijeemdjcgijpaa", sum := "5163ec557e08a15433f5b2e2d3d76c8ae7f39d591e22340dbcf5eaacb2ec2cc6", func := "magpie/magpielaw16.DequeRetires", spec := "dequeRetires", unfollowed := true, recurses := true, apart := false, narrowed := true }
def DequeRetiresUptoSaid : Prop := dequeRetiresUptoRow.holds Try.pinned (OpenSpec.upto dequeRetiresSpec)

/-- 'magpielaw16.DequeStacks', WHERE WHAT IT READS IS OF BULK AT MOST 1048576: true; the input reads as it did. -/
def dequeStacksUptoRow : OpenClaim := { program := "ytijeemdjcgijpaa", sum := "5163ec557e08a15433f5b2e2d3d76c8ae7f39d591e22340dbcf5eaacb2ec2cc6", func := "magpie/magpielaw16.DequeStacks", spec := "dequeStacks", unfollowed := true, recurses := true, apart := false, narrowed := true }
def DequeStacksUptoSaid : Prop := dequeStacksUptoRow.holds Try.pinned (OpenSpec.upto dequeStacksSpec)

/-- 'magpielaw16.DequeGrows', WHERE WHAT IT READS IS OF BULK AT MOST 1048576: true; the input reads as it did. -/
def dequeGrowsUptoRow : OpenClaim := { program := "ytijeemdjcgijpaa", sum := "5163ec557e08a15433f5b2e2d3d76c8ae7f39d591e22340dbcf5eaacb2ec2cc6", func := "magpie/magpielaw16.DequeGrows", spec := "dequeGrows", unfollowed := true, recurses := true, apart := false, narrowed := true }
def DequeGrowsUptoSaid : Prop := dequeGrowsUptoRow.holds Try.pinned (OpenSpec.upto dequeGrowsSpec)

/-- 'magpielaw16.DequeWords', WHERE WHAT IT READS IS OF BULK AT MOST 1048576: true; the input reads as it did. -/
def dequeWordsUptoRow : OpenClaim := { program := "ytijeemdjcgijpaa", sum := "5163ec557e08a15433f5b2e2d3d76c8ae7f39d591e22340dbcf5eaacb2ec2cc6", func := "magpie/magpielaw16.DequeWords", spec := "dequeWords", unfollowed := true, recurses := true, apart := false, narrowed := true }
def DequeWordsUptoSaid : Prop := dequeWordsUptoRow.holds Try.pinned (OpenSpec.upto dequeWordsSpec)

/-- 'magpielaw16.DequeEmpty', WHERE WHAT IT READS IS OF BULK AT MOST 1048576: true; the input reads as it did. -/
def dequeEmptyUptoRow : OpenClaim := { program := "ytijeemdjcgijpaa", sum := "5163ec557e08a15433f5b2e2d3d76c8ae7f39d591e22340dbcf5eaacb2ec2cc6", func := "magpie/magpielaw16.DequeEmpty", spec := "dequeEmpty", unfollowed := true, recurses := true, apart := false, narrowed := true }
def DequeEmptyUptoSaid : Prop := dequeEmptyUptoRow.holds Try.pinned (OpenSpec.upto dequeEmptySpec)

/-- 'magpielaw18.FrameWords', WHERE WHAT IT READS IS OF BULK AT MOST 1048576: true; the input reads as it did. -/
def frameWordsUptoRow : OpenClaim := { program := "ytijeemdjcgijpaa", sum := "5163ec557e08a15433f5b2e2d3d76c8ae7f39d591e22340dbcf5eaacb2ec2cc6", func := "magpie/magpielaw18.FrameWords", spec := "frameWords", unfollowed := true, recurses := true, apart := false, narrowed := true }
def FrameWordsUptoSaid : Prop := frameWordsUptoRow.holds Try.pinned (OpenSpec.upto frameWordsSpec)

/-- 'magpielaw18.FrameRooms', WHERE WHAT IT READS IS OF BULK AT MOST 1048576: true; the input reads as it did. -/
def frameRoomsUptoRow : OpenClaim := { program := "ytijeemdjcgijpaa", sum := "5163ec557e08a15433f5b2e2d3d76c8ae7f39d591e22340dbcf5eaacb2ec2cc6", func := "magpie/magpielaw18.FrameRooms", spec := "frameRooms", unfollowed := true, recurses := true, apart := false, narrowed := true }
def FrameRoomsUptoSaid : Prop := frameRoomsUptoRow.holds Try.pinned (OpenSpec.upto frameRoomsSpec)

/-- 'magpielaw19.FutureSteps', WHERE WHAT IT READS IS OF BULK AT MOST 1048576: true; the input reads as it did. -/
def futureStepsUptoRow : OpenClaim := { program := "ytijeemdjcgijpaa", sum := "5163ec557e08a15433f5b2e2d3d76c8ae7f39d591e22340dbcf5eaacb2ec2cc6", func := "magpie/magpielaw19.FutureSteps", spec := "futureSteps", unfollowed := true, recurses := true, apart := false, narrowed := true }
def FutureStepsUptoSaid : Prop := futureStepsUptoRow.holds Try.pinned (OpenSpec.upto futureStepsSpec)

/-- 'magpielaw19.FutureOnce', WHERE WHAT IT READS IS OF BULK AT MOST 1048576: true; the input reads as it did. -/
def futureOnceUptoRow : OpenClaim := { program := "ytijeemdjcgijpaa", sum := "5163ec557e08a15433f5b2e2d3d76c8ae7f39d591e22340dbcf5eaacb2ec2cc6", func := "magpie/magpielaw19.FutureOnce", spec := "futureOnce", unfollowed := true, recurses := true, apart := false, narrowed := true }
def FutureOnceUptoSaid : Prop := futureOnceUptoRow.holds Try.pinned (OpenSpec.upto futureOnceSpec)

/-- 'magpielaw19.FutureMany', WHERE WHAT IT READS IS OF BULK AT MOST 1048576: true; the input reads as it did. -/
def futureManyUptoRow : OpenClaim := { program := "ytijeemdjcgijpaa", sum := "5163ec557e08a15433f5b2e2d3d76c8ae7f39d591e22340dbcf5eaacb2ec2cc6", func := "magpie/magpielaw19.FutureMany", spec := "futureMany", unfollowed := true, recurses := true, apart := false, narrowed := true }
def FutureManyUptoSaid : Prop := futureManyUptoRow.holds Try.pinned (OpenSpec.upto futureManySpec)

/-- 'magpielaw18.FrameLives', WHERE WHAT IT READS IS OF BULK AT MOST 1048576: true; the input reads as it did. -/
def frameLivesUptoRow : OpenClaim := { program := "ytijeemdjcgijpaa", sum := "5163ec557e08a15433f5b2e2d3d76c8ae7f39d591e22340dbcf5eaacb2ec2cc6", func := "magpie/magpielaw18.FrameLives", spec := "frameLives", unfollowed := true, recurses := true, apart := false, narrowed := true }
def FrameLivesUptoSaid : Prop := frameLivesUptoRow.holds Try.pinned (OpenSpec.upto frameLivesSpec)

/-- 'magpielaw18.FrameBoth', WHERE WHAT IT READS IS OF BULK AT MOST 1048576: true; the input reads as it did. -/
def frameBothUptoRow : OpenClaim := { program := "ytijeemdjcgijpaa", sum := "5163ec557e08a15433f5b2e2d3d76c8ae7f39d591e22340dbcf5eaacb2ec2cc6", func := "magpie/magpielaw18.FrameBoth", spec := "frameBoth", unfollowed := true, recurses := true, apart := false, narrowed := true }
def FrameBothUptoSaid : Prop := frameBothUptoRow.holds Try.pinned (OpenSpec.upto frameBothSpec)

end Rows
end Go.Proofs.Ytijeemdjcgijpaa
