/-
  No cell of these rows narrows 'for every input' (looked for: loops, veiled, ifaces, maps, wideKeys, modest, calm, conditions, laid).
  DERIVED. THE GIVEN ROWS OF THIS SEAT. 13 by the template 'for every input the law returns true; each argument reads behind the call as it read before'; 0 by the template 'total and deterministic' (their statements: YtfphgiipekkgdaaTotals.lean).
  GIVEN WITH THE SEED: the statements are not yours to turn. If you find one false, say at which input.
  Laid BY PROGRAM, IN A SANDBOX (cutbox-rows.mjs): the forced cells as the released guide's own fill.sh prints them over the translation ed8a3233e3d7c8b5… (all of the seat's roots in one cut). By AI agents, Wed Nov 11 2026. No macro, syntax, notation, axiom, sorry.
-/
import Derived.Test.YtfphgiipekkgdaaChecked
import GoSem.Claim
import GoSem.ClaimJoined
import GoSem.ClaimMapViews
import Derived.JoinedTies
import Derived.KernelRfl
namespace Go.Proofs.Ytfphgiipekkgdaa
/- THE CELL 'sum', in the pinned program and in every row, IS THE sha256 OF THE DUMP (.gsa) THAT YtfphgiipekkgdaaProg.lean LOADS. Nothing in Lean hashes anything: it is a label: what it is worth is what the hold of that sum in a sandbox is worth. -/
noncomputable def Try.pinned : Pinned := { name := "ytfphgiipekkgdaa", sum := "ed8a3233e3d7c8b5b6e020a05dd119acfca760af832da359f1f55bf1aaaa71db", checked := Try.checked }
namespace Rows
def none {H : Type} : Left H := { results := [], args := [] }

/-- 'magpielaw11.SlabFull': WHATEVER THE INPUT: true; the input reads as it did. -/
def slabFullSpec : ChangeSpec := { name := "slabFull", fn := fun _ => fun
  | [d1, d2] => { results := [.lit (.bool true)], args := [d1, d2] }
  | _ => none }
def slabFullRow : OpenClaim := { program := "ytfphgiipekkgdaa", sum := "ed8a3233e3d7c8b5b6e020a05dd119acfca760af832da359f1f55bf1aaaa71db", func := "magpie/magpielaw11.SlabFull", spec := "slabFull", unfollowed := true, recurses := true, apart := false }
def SlabFullSaid : Prop := slabFullRow.holds Try.pinned (OpenSpec.ofChange slabFullSpec)

/-- ITS FALSE NEIGHBOUR: 'it returns false'. Refute it at one input. -/
def slabFullWrong : ChangeSpec := { name := "slabFull", fn := fun _ => fun
  | [d1, d2] => { results := [.lit (.bool false)], args := [d1, d2] }
  | _ => none }
def SlabFullWrongFalsely : Prop := slabFullRow.holds Try.pinned (OpenSpec.ofChange slabFullWrong)

/-- 'magpielaw11.SlabOne': WHATEVER THE INPUT: true; the input reads as it did. -/
def slabOneSpec : ChangeSpec := { name := "slabOne", fn := fun _ => fun
  | [d1, d2, d3] => { results := [.lit (.bool true)], args := [d1, d2, d3] }
  | _ => none }
def slabOneRow : OpenClaim := { program := "ytfphgiipekkgdaa", sum := "ed8a3233e3d7c8b5b6e020a05dd119acfca760af832da359f1f55bf1aaaa71db", func := "magpie/magpielaw11.SlabOne", spec := "slabOne", unfollowed := true, recurses := true, apart := false }
def SlabOneSaid : Prop := slabOneRow.holds Try.pinned (OpenSpec.ofChange slabOneSpec)

/-- ITS FALSE NEIGHBOUR: 'it returns false'. Refute it at one input. -/
def slabOneWrong : ChangeSpec := { name := "slabOne", fn := fun _ => fun
  | [d1, d2, d3] => { results := [.lit (.bool false)], args := [d1, d2, d3] }
  | _ => none }
def SlabOneWrongFalsely : Prop := slabOneRow.holds Try.pinned (OpenSpec.ofChange slabOneWrong)

/-- 'magpielaw11.SlabAgain': WHATEVER THE INPUT: true; the input reads as it did. -/
def slabAgainSpec : ChangeSpec := { name := "slabAgain", fn := fun _ => fun
  | [d1, d2, d3, d4, d5] => { results := [.lit (.bool true)], args := [d1, d2, d3, d4, d5] }
  | _ => none }
def slabAgainRow : OpenClaim := { program := "ytfphgiipekkgdaa", sum := "ed8a3233e3d7c8b5b6e020a05dd119acfca760af832da359f1f55bf1aaaa71db", func := "magpie/magpielaw11.SlabAgain", spec := "slabAgain", unfollowed := true, recurses := true, apart := false }
def SlabAgainSaid : Prop := slabAgainRow.holds Try.pinned (OpenSpec.ofChange slabAgainSpec)

/-- ITS FALSE NEIGHBOUR: 'it returns false'. Refute it at one input. -/
def slabAgainWrong : ChangeSpec := { name := "slabAgain", fn := fun _ => fun
  | [d1, d2, d3, d4, d5] => { results := [.lit (.bool false)], args := [d1, d2, d3, d4, d5] }
  | _ => none }
def SlabAgainWrongFalsely : Prop := slabAgainRow.holds Try.pinned (OpenSpec.ofChange slabAgainWrong)

/-- 'magpielaw11.SlabMixes': WHATEVER THE INPUT: true; the input reads as it did. -/
def slabMixesSpec : ChangeSpec := { name := "slabMixes", fn := fun _ => fun
  | [d1, d2, d3] => { results := [.lit (.bool true)], args := [d1, d2, d3] }
  | _ => none }
def slabMixesRow : OpenClaim := { program := "ytfphgiipekkgdaa", sum := "ed8a3233e3d7c8b5b6e020a05dd119acfca760af832da359f1f55bf1aaaa71db", func := "magpie/magpielaw11.SlabMixes", spec := "slabMixes", unfollowed := true, recurses := true, apart := false }
def SlabMixesSaid : Prop := slabMixesRow.holds Try.pinned (OpenSpec.ofChange slabMixesSpec)

/-- ITS FALSE NEIGHBOUR: 'it returns false'. Refute it at one input. -/
def slabMixesWrong : ChangeSpec := { name := "slabMixes", fn := fun _ => fun
  | [d1, d2, d3] => { results := [.lit (.bool false)], args := [d1, d2, d3] }
  | _ => none }
def SlabMixesWrongFalsely : Prop := slabMixesRow.holds Try.pinned (OpenSpec.ofChange slabMixesWrong)

/-- 'magpielaw12.HazardWords': WHATEVER THE INPUT: true; the input reads as it did. -/
def hazardWordsSpec : ChangeSpec := { name := "hazardWords", fn := fun _ => fun
  | [d1, d2, d3, d4] => { results := [.lit (.bool true)], args := [d1, d2, d3, d4] }
  | _ => none }
def hazardWordsRow : OpenClaim := { program := "ytfphgiipekkgdaa", sum := "ed8a3233e3d7c8b5b6e020a05dd119acfca760af832da359f1f55bf1aaaa71db", func := "magpie/magpielaw12.HazardWords", spec := "hazardWords", unfollowed := true, recurses := true, apart := false }
def HazardWordsSaid : Prop := hazardWordsRow.holds Try.pinned (OpenSpec.ofChange hazardWordsSpec)

/-- ITS FALSE NEIGHBOUR: 'it returns false'. Refute it at one input. -/
def hazardWordsWrong : ChangeSpec := { name := "hazardWords", fn := fun _ => fun
  | [d1, d2, d3, d4] => { results := [.lit (.bool false)], args := [d1, d2, d3, d4] }
  | _ => none }
def HazardWordsWrongFalsely : Prop := hazardWordsRow.holds Try.pinned (OpenSpec.ofChange hazardWordsWrong)

/-- 'magpielaw12.HazardOthers': WHATEVER THE INPUT: true; the input reads as it did. -/
def hazardOthersSpec : ChangeSpec := { name := "hazardOthers", fn := fun _ => fun
  | [d1, d2] => { results := [.lit (.bool true)], args := [d1, d2] }
  | _ => none }
def hazardOthersRow : OpenClaim := { program := "ytfphgiipekkgdaa", sum := "ed8a3233e3d7c8b5b6e020a05dd119acfca760af832da359f1f55bf1aaaa71db", func := "magpie/magpielaw12.HazardOthers", spec := "hazardOthers", unfollowed := true, recurses := true, apart := false }
def HazardOthersSaid : Prop := hazardOthersRow.holds Try.pinned (OpenSpec.ofChange hazardOthersSpec)

/-- ITS FALSE NEIGHBOUR: 'it returns false'. Refute it at one input. -/
def hazardOthersWrong : ChangeSpec := { name := "hazardOthers", fn := fun _ => fun
  | [d1, d2] => { results := [.lit (.bool false)], args := [d1, d2] }
  | _ => none }
def HazardOthersWrongFalsely : Prop := hazardOthersRow.holds Try.pinned (OpenSpec.ofChange hazardOthersWrong)

/-- 'magpielaw12.HazardTwice': WHATEVER THE INPUT: true; the input reads as it did. -/
def hazardTwiceSpec : ChangeSpec := { name := "hazardTwice", fn := fun _ => fun
  | [d1, d2, d3, d4] => { results := [.lit (.bool true)], args := [d1, d2, d3, d4] }
  | _ => none }
def hazardTwiceRow : OpenClaim := { program := "ytfphgiipekkgdaa", sum := "ed8a3233e3d7c8b5b6e020a05dd119acfca760af832da359f1f55bf1aaaa71db", func := "magpie/magpielaw12.HazardTwice", spec := "hazardTwice", unfollowed := true, recurses := true, apart := false }
def HazardTwiceSaid : Prop := hazardTwiceRow.holds Try.pinned (OpenSpec.ofChange hazardTwiceSpec)

/-- ITS FALSE NEIGHBOUR: 'it returns false'. Refute it at one input. -/
def hazardTwiceWrong : ChangeSpec := { name := "hazardTwice", fn := fun _ => fun
  | [d1, d2, d3, d4] => { results := [.lit (.bool false)], args := [d1, d2, d3, d4] }
  | _ => none }
def HazardTwiceWrongFalsely : Prop := hazardTwiceRow.holds Try.pinned (OpenSpec.ofChange hazardTwiceWrong)

/-- 'magpielaw12.HazardScans': WHATEVER THE INPUT: true; the input reads as it did. -/
def hazardScansSpec : ChangeSpec := { name := "hazardScans", fn := fun _ => fun
  | [d1, d2, d3, d4] => { results := [.lit (.bool true)], args := [d1, d2, d3, d4] }
  | _ => none }
def hazardScansRow : OpenClaim := { program := "ytfphgiipekkgdaa", sum := "ed8a3233e3d7c8b5b6e020a05dd119acfca760af832da359f1f55bf1aaaa71db", func := "magpie/magpielaw12.HazardScans", spec := "hazardScans", unfollowed := true, recurses := true, apart := false }
def HazardScansSaid : Prop := hazardScansRow.holds Try.pinned (OpenSpec.ofChange hazardScansSpec)

/-- ITS FALSE NEIGHBOUR: 'it returns false'. Refute it at one input. -/
def hazardScansWrong : ChangeSpec := { name := "hazardScans", fn := fun _ => fun
  | [d1, d2, d3, d4] => { results := [.lit (.bool false)], args := [d1, d2, d3, d4] }
  | _ => none }
def HazardScansWrongFalsely : Prop := hazardScansRow.holds Try.pinned (OpenSpec.ofChange hazardScansWrong)

/-- 'magpielaw12.HazardKeeps': WHATEVER THE INPUT: true; the input reads as it did. -/
def hazardKeepsSpec : ChangeSpec := { name := "hazardKeeps", fn := fun _ => fun
  | [d1, d2] => { results := [.lit (.bool true)], args := [d1, d2] }
  | _ => none }
def hazardKeepsRow : OpenClaim := { program := "ytfphgiipekkgdaa", sum := "ed8a3233e3d7c8b5b6e020a05dd119acfca760af832da359f1f55bf1aaaa71db", func := "magpie/magpielaw12.HazardKeeps", spec := "hazardKeeps", unfollowed := true, recurses := true, apart := false }
def HazardKeepsSaid : Prop := hazardKeepsRow.holds Try.pinned (OpenSpec.ofChange hazardKeepsSpec)

/-- ITS FALSE NEIGHBOUR: 'it returns false'. Refute it at one input. -/
def hazardKeepsWrong : ChangeSpec := { name := "hazardKeeps", fn := fun _ => fun
  | [d1, d2] => { results := [.lit (.bool false)], args := [d1, d2] }
  | _ => none }
def HazardKeepsWrongFalsely : Prop := hazardKeepsRow.holds Try.pinned (OpenSpec.ofChange hazardKeepsWrong)

/-- 'magpielaw13.EpochSteps': WHATEVER THE INPUT: true; the input reads as it did. -/
def epochStepsSpec : ChangeSpec := { name := "epochSteps", fn := fun _ => fun
  | [d1, d2] => { results := [.lit (.bool true)], args := [d1, d2] }
  | _ => none }
def epochStepsRow : OpenClaim := { program := "ytfphgiipekkgdaa", sum := "ed8a3233e3d7c8b5b6e020a05dd119acfca760af832da359f1f55bf1aaaa71db", func := "magpie/magpielaw13.EpochSteps", spec := "epochSteps", unfollowed := true, recurses := true, apart := false }
def EpochStepsSaid : Prop := epochStepsRow.holds Try.pinned (OpenSpec.ofChange epochStepsSpec)

/-- ITS FALSE NEIGHBOUR: 'it returns false'. Refute it at one input. -/
def epochStepsWrong : ChangeSpec := { name := "epochSteps", fn := fun _ => fun
  | [d1, d2] => { results := [.lit (.bool false)], args := [d1, d2] }
  | _ => none }
def EpochStepsWrongFalsely : Prop := epochStepsRow.holds Try.pinned (OpenSpec.ofChange epochStepsWrong)

/-- 'magpielaw13.EpochPins': WHATEVER THE INPUT: true; the input reads as it did. -/
def epochPinsSpec : ChangeSpec := { name := "epochPins", fn := fun _ => fun
  | [d1, d2, d3] => { results := [.lit (.bool true)], args := [d1, d2, d3] }
  | _ => none }
def epochPinsRow : OpenClaim := { program := "ytfphgiipekkgdaa", sum := "ed8a3233e3d7c8b5b6e020a05dd119acfca760af832da359f1f55bf1aaaa71db", func := "magpie/magpielaw13.EpochPins", spec := "epochPins", unfollowed := true, recurses := true, apart := false }
def EpochPinsSaid : Prop := epochPinsRow.holds Try.pinned (OpenSpec.ofChange epochPinsSpec)

/-- ITS FALSE NEIGHBOUR: 'it returns false'. Refute it at one input. -/
def epochPinsWrong : ChangeSpec := { name := "epochPins", fn := fun _ => fun
  | [d1, d2, d3] => { results := [.lit (.bool false)], args := [d1, d2, d3] }
  | _ => none }
def EpochPinsWrongFalsely : Prop := epochPinsRow.holds Try.pinned (OpenSpec.ofChange epochPinsWrong)

/-- 'magpielaw13.EpochTurns': WHATEVER THE INPUT: true; the input reads as it did. -/
def epochTurnsSpec : ChangeSpec := { name := "epochTurns", fn := fun _ => fun
  | [d1, d2, d3, d4] => { results := [.lit (.bool true)], args := [d1, d2, d3, d4] }
  | _ => none }
def epochTurnsRow : OpenClaim := { program := "ytfphgiipekkgdaa", sum := "ed8a3233e3d7c8b5b6e020a05dd119acfca760af832da359f1f55bf1aaaa71db", func := "magpie/magpielaw13.EpochTurns", spec := "epochTurns", unfollowed := true, recurses := true, apart := false }
def EpochTurnsSaid : Prop := epochTurnsRow.holds Try.pinned (OpenSpec.ofChange epochTurnsSpec)

/-- ITS FALSE NEIGHBOUR: 'it returns false'. Refute it at one input. -/
def epochTurnsWrong : ChangeSpec := { name := "epochTurns", fn := fun _ => fun
  | [d1, d2, d3, d4] => { results := [.lit (.bool false)], args := [d1, d2, d3, d4] }
  | _ => none }
def EpochTurnsWrongFalsely : Prop := epochTurnsRow.holds Try.pinned (OpenSpec.ofChange epochTurnsWrong)

/-- 'magpielaw13.EpochKeeps': WHATEVER THE INPUT: true; the input reads as it did. -/
def epochKeepsSpec : ChangeSpec := { name := "epochKeeps", fn := fun _ => fun
  | [d1, d2] => { results := [.lit (.bool true)], args := [d1, d2] }
  | _ => none }
def epochKeepsRow : OpenClaim := { program := "ytfphgiipekkgdaa", sum := "ed8a3233e3d7c8b5b6e020a05dd119acfca760af832da359f1f55bf1aaaa71db", func := "magpie/magpielaw13.EpochKeeps", spec := "epochKeeps", unfollowed := true, recurses := true, apart := false }
def EpochKeepsSaid : Prop := epochKeepsRow.holds Try.pinned (OpenSpec.ofChange epochKeepsSpec)

/-- ITS FALSE NEIGHBOUR: 'it returns false'. Refute it at one input. -/
def epochKeepsWrong : ChangeSpec := { name := "epochKeeps", fn := fun _ => fun
  | [d1, d2] => { results := [.lit (.bool false)], args := [d1, d2] }
  | _ => none }
def EpochKeepsWrongFalsely : Prop := epochKeepsRow.holds Try.pinned (OpenSpec.ofChange epochKeepsWrong)

/- THE SECOND FORM. 'bulk': how many values and letters a reading holds, each counted each time it is reached (what is shared counts as often as it is met; a slice's spare places count too). A statement '..UptoSaid' is the law's where the arguments, and the package variables that the reading takes, are together of bulk at most 1048576: NARROWER than '..Said'. Prove '..Said' where nothing that the law and all that it calls make is longer than what came in: it says more and counts as full. Else prove '..UptoSaid'. A law counts once. -/
mutual
def uptoBulk {H : Type} : DataW H → Nat
  | .lit (.string bytes) => bytes.length + 1
  | .lit _ => 1
  | .nil => 1
  | .ptr d => uptoBulk d + 1
  | .slice elems spare => uptoBulkAll elems + uptoBulkAll spare + 1
  | .agg parts => uptoBulkAll parts + 1
  | .iface _ d => uptoBulk d + 1
  | .map entries => uptoBulkEntries entries + 1
  | .held _ => 1
def uptoBulkAll {H : Type} : List (DataW H) → Nat
  | [] => 0
  | d :: r => uptoBulk d + uptoBulkAll r
def uptoBulkEntries {H : Type} : List (Lit × DataW H) → Nat
  | [] => 0
  | x :: r => uptoBulkEntry x + uptoBulkEntries r
def uptoBulkEntry {H : Type} : Lit × DataW H → Nat
  | (.string bytes, d) => bytes.length + uptoBulk d + 1
  | (_, d) => uptoBulk d + 1
 end
def uptoSmall : (H : Type) → List (DataW H) → Bool := fun _ ds => decide (uptoBulkAll ds ≤ 1048576)
def OpenSpec.upto (s : _root_.Go.ChangeSpec) : _root_.Go.OpenSpec := { _root_.Go.OpenSpec.ofChange s with cond := some uptoSmall }

/-- 'magpielaw11.SlabFull', WHERE WHAT IT READS IS OF BULK AT MOST 1048576: true; the input reads as it did. -/
def slabFullUptoRow : OpenClaim := { program := "ytfphgiipekkgdaa", sum := "ed8a3233e3d7c8b5b6e020a05dd119acfca760af832da359f1f55bf1aaaa71db", func := "magpie/magpielaw11.SlabFull", spec := "slabFull", unfollowed := true, recurses := true, apart := false, narrowed := true }
def SlabFullUptoSaid : Prop := slabFullUptoRow.holds Try.pinned (OpenSpec.upto slabFullSpec)

/-- 'magpielaw11.SlabOne', WHERE WHAT IT READS IS OF BULK AT MOST 1048576: true; the input reads as it did. -/
def slabOneUptoRow : OpenClaim := { program := "ytfphgiipekkgdaa", sum := "ed8a3233e3d7c8b5b6e020a05dd119acfca760af832da359f1f55bf1aaaa71db", func := "magpie/magpielaw11.SlabOne", spec := "slabOne", unfollowed := true, recurses := true, apart := false, narrowed := true }
def SlabOneUptoSaid : Prop := slabOneUptoRow.holds Try.pinned (OpenSpec.upto slabOneSpec)

/-- 'magpielaw11.SlabAgain', WHERE WHAT IT READS IS OF BULK AT MOST 1048576: true; the input reads as it did. -/
def slabAgainUptoRow : OpenClaim := { program := "ytfphgiipekkgdaa", sum := "ed8a3233e3d7c8b5b6e020a05dd119acfca760af832da359f1f55bf1aaaa71db", func := "magpie/magpielaw11.SlabAgain", spec := "slabAgain", unfollowed := true, recurses := true, apart := false, narrowed := true }
def SlabAgainUptoSaid : Prop := slabAgainUptoRow.holds Try.pinned (OpenSpec.upto slabAgainSpec)

/-- 'magpielaw11.SlabMixes', WHERE WHAT IT READS IS OF BULK AT MOST 1048576: true; the input reads as it did. -/
def slabMixesUptoRow : OpenClaim := { program := "ytfphgiipekkgdaa", sum := "ed8a3233e3d7c8b5b6e020a05dd119acfca760af832da359f1f55bf1aaaa71db", func := "magpie/magpielaw11.SlabMixes", spec := "slabMixes", unfollowed := true, recurses := true, apart := false, narrowed := true }
def SlabMixesUptoSaid : Prop := slabMixesUptoRow.holds Try.pinned (OpenSpec.upto slabMixesSpec)

/-- 'magpielaw12.HazardWords', WHERE WHAT IT READS IS OF BULK AT MOST 1048576: true; the input reads as it did. -/
def hazardWordsUptoRow : OpenClaim := { program := "ytfphgiipekkgdaa", sum := "ed8a3233e3d7c8b5b6e020a05dd119acfca760af832da359f1f55bf1aaaa71db", func := "magpie/magpielaw12.HazardWords", spec := "hazardWords", unfollowed := true, recurses := true, apart := false, narrowed := true }
def HazardWordsUptoSaid : Prop := hazardWordsUptoRow.holds Try.pinned (OpenSpec.upto hazardWordsSpec)

/-- 'magpielaw12.HazardOthers', WHERE WHAT IT READS IS OF BULK AT MOST 1048576: true; the input reads as it did. -/
def hazardOthersUptoRow : OpenClaim := { program := "ytfphgiipekkgdaa", sum := "ed8a3233e3d7c8b5b6e020a05dd119acfca760af832da359f1f55bf1aaaa71db", func := "magpie/magpielaw12.HazardOthers", spec := "hazardOthers", unfollowed := true, recurses := true, apart := false, narrowed := true }
def HazardOthersUptoSaid : Prop := hazardOthersUptoRow.holds Try.pinned (OpenSpec.upto hazardOthersSpec)

/-- 'magpielaw12.HazardTwice', WHERE WHAT IT READS IS OF BULK AT MOST 1048576: true; the input reads as it did. -/
def hazardTwiceUptoRow : OpenClaim := { program := "ytfphgiipekkgdaa", sum := "ed8a3233e3d7c8b5b6e020a05dd119acfca760af832da359f1f55bf1aaaa71db", func := "magpie/magpielaw12.HazardTwice", spec := "hazardTwice", unfollowed := true, recurses := true, apart := false, narrowed := true }
def HazardTwiceUptoSaid : Prop := hazardTwiceUptoRow.holds Try.pinned (OpenSpec.upto hazardTwiceSpec)

/-- 'magpielaw12.HazardScans', WHERE WHAT IT READS IS OF BULK AT MOST 1048576: true; the input reads as it did. -/
def hazardScansUptoRow : OpenClaim := { program := "ytfphgiipekkgdaa", sum := "ed8a3233e3d7c8b5b6e020a05dd119acfca760af832da359f1f55bf1aaaa71db", func := "magpie/magpielaw12.HazardScans", spec := "hazardScans", unfollowed := true, recurses := true, apart := false, narrowed := true }
def HazardScansUptoSaid : Prop := hazardScansUptoRow.holds Try.pinned (OpenSpec.upto hazardScansSpec)

/-- 'magpielaw12.HazardKeeps', WHERE WHAT IT READS IS OF BULK AT MOST 1048576: true; the input reads as it did. -/
def hazardKeepsUptoRow : OpenClaim := { program := "ytfphgiipekkgdaa", sum := "ed8a3233e3d7c8b5b6e020a05dd119acfca760af832da359f1f55bf1aaaa71db", func := "magpie/magpielaw12.HazardKeeps", spec := "hazardKeeps", unfollowed := true, recurses := true, apart := false, narrowed := true }
def HazardKeepsUptoSaid : Prop := hazardKeepsUptoRow.holds Try.pinned (OpenSpec.upto hazardKeepsSpec)

/-- 'magpielaw13.EpochSteps', WHERE WHAT IT READS IS OF BULK AT MOST 1048576: true; the input reads as it did. -/
def epochStepsUptoRow : OpenClaim := { program := "ytfphgiipekkgdaa", sum := "ed8a3233e3d7c8b5b6e020a05dd119acfca760af832da359f1f55bf1aaaa71db", func := "magpie/magpielaw13.EpochSteps", spec := "epochSteps", unfollowed := true, recurses := true, apart := false, narrowed := true }
def EpochStepsUptoSaid : Prop := epochStepsUptoRow.holds Try.pinned (OpenSpec.upto epochStepsSpec)

/-- 'magpielaw13.EpochPins', WHERE WHAT IT READS IS OF BULK AT MOST 1048576: true; the input reads as it did. -/
def epochPinsUptoRow : OpenClaim := { program := "ytfphgiipekkgdaa", sum := "ed8a3233e3d7c8b5b6e020a05dd119acfca760af832da359f1f55bf1aaaa71db", func := "magpie/magpielaw13.EpochPins", spec := "epochPins", unfollowed := true, recurses := true, apart := false, narrowed := true }
def EpochPinsUptoSaid : Prop := epochPinsUptoRow.holds Try.pinned (OpenSpec.upto epochPinsSpec)

/-- 'magpielaw13.EpochTurns', WHERE WHAT IT READS IS OF BULK AT MOST 1048576: true; the input reads as it did. -/
def epochTurnsUptoRow : OpenClaim := { program := "ytfphgiipekkgdaa", sum := "ed8a3233e3d7c8b5b6e020a05dd119acfca760af832da359f1f55bf1aaaa71db", func := "magpie/magpielaw13.EpochTurns", spec := "epochTurns", unfollowed := true, recurses := true, apart := false, narrowed := true }
def EpochTurnsUptoSaid : Prop := epochTurnsUptoRow.holds Try.pinned (OpenSpec.upto epochTurnsSpec)

/-- 'magpielaw13.EpochKeeps', WHERE WHAT IT READS IS OF BULK AT MOST 1048576: true; the input reads as it did. -/
def epochKeepsUptoRow : OpenClaim := { program := "ytfphgiipekkgdaa", sum := "ed8a3233e3d7c8b5b6e020a05dd119acfca760af832da359f1f55bf1aaaa71db", func := "magpie/magpielaw13.EpochKeeps", spec := "epochKeeps", unfollowed := true, recurses := true, apart := false, narrowed := true }
def EpochKeepsUptoSaid : Prop := epochKeepsUptoRow.holds Try.pinned (OpenSpec.upto epochKeepsSpec)

end Rows
end Go.Proofs.Ytfphgiipekkgdaa
