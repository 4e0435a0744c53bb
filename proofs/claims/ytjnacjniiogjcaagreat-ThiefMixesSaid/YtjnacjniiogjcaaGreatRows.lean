/-
  No cell of these rows narrows 'for every input' (looked for: loops, veiled, ifaces, maps, wideKeys, modest, calm, conditions, laid).
  DERIVED. THE GIVEN ROWS OF THIS SEAT. 6 by the template 'for every input the law returns true; each argument reads behind the call as it read before'; 0 by the template 'total and deterministic' (their statements: YtjnacjniiogjcaaGreatTotals.lean).
  GIVEN WITH THE SEED: the statements are not yours to turn. If you find one false, say at which input.
  Laid BY PROGRAM, IN A SANDBOX (cutbox-rows.mjs): the forced cells as the released guide's own fill.sh prints them over the translation 636bdca7b4bfc142… (all of the seat's roots in one cut). By AI agents, Wed Nov 11 2026. No macro, syntax, notation, axiom, sorry.
-/
import Derived.Test.YtjnacjniiogjcaaGreatChecked
import GoSem.Claim
import GoSem.ClaimJoined
import GoSem.ClaimMapViews
import Derived.JoinedTies
import Derived.KernelRfl
namespace Go.Proofs.YtjnacjniiogjcaaGreat
/- THE CELL 'sum', in the pinned program and in every row, IS THE sha256 OF THE DUMP (.gsa) THAT YtjnacjniiogjcaaGreatProg.lean LOADS. Nothing in Lean hashes anything: it is a label: what it is worth is what the hold of that sum in a sandbox is worth. -/
noncomputable def Tryz.pinned : Pinned := { name := "ytjnacjniiogjcaagreat", sum := "636bdca7b4bfc142aa2e125d75154c6567bf8168fd7783571f87edae4cd8e6af", checked := Tryz.checked }
namespace Rows
def none {H : Type} : Left H := { results := [], args := [] }

/-- 'magpielaw17.ThiefSteps': WHATEVER THE INPUT: true; the input reads as it did. -/
def thiefStepsSpec : ChangeSpec := { name := "thiefSteps", fn := fun _ => fun
  | [d1, d2, d3] => { results := [.lit (.bool true)], args := [d1, d2, d3] }
  | _ => none }
def thiefStepsRow : OpenClaim := { program := "ytjnacjniiogjcaagreat", sum := "636bdca7b4bfc142aa2e125d75154c6567bf8168fd7783571f87edae4cd8e6af", func := "magpie/magpielaw17.ThiefSteps", spec := "thiefSteps", unfollowed := true, recurses := true, apart := false }
def ThiefStepsSaid : Prop := thiefStepsRow.holds Tryz.pinned (OpenSpec.ofChange thiefStepsSpec)

/-- ITS FALSE NEIGHBOUR: 'it returns false'. Refute it at one input. -/
def thiefStepsWrong : ChangeSpec := { name := "thiefSteps", fn := fun _ => fun
  | [d1, d2, d3] => { results := [.lit (.bool false)], args := [d1, d2, d3] }
  | _ => none }
def ThiefStepsWrongFalsely : Prop := thiefStepsRow.holds Tryz.pinned (OpenSpec.ofChange thiefStepsWrong)

/-- 'magpielaw17.ThiefMixes': WHATEVER THE INPUT: true; the input reads as it did. -/
def thiefMixesSpec : ChangeSpec := { name := "thiefMixes", fn := fun _ => fun
  | [d1, d2, d3] => { results := [.lit (.bool true)], args := [d1, d2, d3] }
  | _ => none }
def thiefMixesRow : OpenClaim := { program := "ytjnacjniiogjcaagreat", sum := "636bdca7b4bfc142aa2e125d75154c6567bf8168fd7783571f87edae4cd8e6af", func := "magpie/magpielaw17.ThiefMixes", spec := "thiefMixes", unfollowed := true, recurses := true, apart := false }
def ThiefMixesSaid : Prop := thiefMixesRow.holds Tryz.pinned (OpenSpec.ofChange thiefMixesSpec)

/-- ITS FALSE NEIGHBOUR: 'it returns false'. Refute it at one input. -/
def thiefMixesWrong : ChangeSpec := { name := "thiefMixes", fn := fun _ => fun
  | [d1, d2, d3] => { results := [.lit (.bool false)], args := [d1, d2, d3] }
  | _ => none }
def ThiefMixesWrongFalsely : Prop := thiefMixesRow.holds Tryz.pinned (OpenSpec.ofChange thiefMixesWrong)

/-- 'magpielaw17.ThiefAhead': WHATEVER THE INPUT: true; the input reads as it did. -/
def thiefAheadSpec : ChangeSpec := { name := "thiefAhead", fn := fun _ => fun
  | [d1, d2, d3] => { results := [.lit (.bool true)], args := [d1, d2, d3] }
  | _ => none }
def thiefAheadRow : OpenClaim := { program := "ytjnacjniiogjcaagreat", sum := "636bdca7b4bfc142aa2e125d75154c6567bf8168fd7783571f87edae4cd8e6af", func := "magpie/magpielaw17.ThiefAhead", spec := "thiefAhead", unfollowed := true, recurses := true, apart := false }
def ThiefAheadSaid : Prop := thiefAheadRow.holds Tryz.pinned (OpenSpec.ofChange thiefAheadSpec)

/-- ITS FALSE NEIGHBOUR: 'it returns false'. Refute it at one input. -/
def thiefAheadWrong : ChangeSpec := { name := "thiefAhead", fn := fun _ => fun
  | [d1, d2, d3] => { results := [.lit (.bool false)], args := [d1, d2, d3] }
  | _ => none }
def ThiefAheadWrongFalsely : Prop := thiefAheadRow.holds Tryz.pinned (OpenSpec.ofChange thiefAheadWrong)

/-- 'magpielaw17.ThiefLast': WHATEVER THE INPUT: true; the input reads as it did. -/
def thiefLastSpec : ChangeSpec := { name := "thiefLast", fn := fun _ => fun
  | [d1, d2, d3] => { results := [.lit (.bool true)], args := [d1, d2, d3] }
  | _ => none }
def thiefLastRow : OpenClaim := { program := "ytjnacjniiogjcaagreat", sum := "636bdca7b4bfc142aa2e125d75154c6567bf8168fd7783571f87edae4cd8e6af", func := "magpie/magpielaw17.ThiefLast", spec := "thiefLast", unfollowed := true, recurses := true, apart := false }
def ThiefLastSaid : Prop := thiefLastRow.holds Tryz.pinned (OpenSpec.ofChange thiefLastSpec)

/-- ITS FALSE NEIGHBOUR: 'it returns false'. Refute it at one input. -/
def thiefLastWrong : ChangeSpec := { name := "thiefLast", fn := fun _ => fun
  | [d1, d2, d3] => { results := [.lit (.bool false)], args := [d1, d2, d3] }
  | _ => none }
def ThiefLastWrongFalsely : Prop := thiefLastRow.holds Tryz.pinned (OpenSpec.ofChange thiefLastWrong)

/-- 'magpielaw17.ThiefQueues': WHATEVER THE INPUT: true; the input reads as it did. -/
def thiefQueuesSpec : ChangeSpec := { name := "thiefQueues", fn := fun _ => fun
  | [d1, d2, d3] => { results := [.lit (.bool true)], args := [d1, d2, d3] }
  | _ => none }
def thiefQueuesRow : OpenClaim := { program := "ytjnacjniiogjcaagreat", sum := "636bdca7b4bfc142aa2e125d75154c6567bf8168fd7783571f87edae4cd8e6af", func := "magpie/magpielaw17.ThiefQueues", spec := "thiefQueues", unfollowed := true, recurses := true, apart := false }
def ThiefQueuesSaid : Prop := thiefQueuesRow.holds Tryz.pinned (OpenSpec.ofChange thiefQueuesSpec)

/-- ITS FALSE NEIGHBOUR: 'it returns false'. Refute it at one input. -/
def thiefQueuesWrong : ChangeSpec := { name := "thiefQueues", fn := fun _ => fun
  | [d1, d2, d3] => { results := [.lit (.bool false)], args := [d1, d2, d3] }
  | _ => none }
def ThiefQueuesWrongFalsely : Prop := thiefQueuesRow.holds Tryz.pinned (OpenSpec.ofChange thiefQueuesWrong)

/-- 'magpielaw17.ThiefChoice': WHATEVER THE INPUT: true; the input reads as it did. -/
def thiefChoiceSpec : ChangeSpec := { name := "thiefChoice", fn := fun _ => fun
  | [d1, d2, d3] => { results := [.lit (.bool true)], args := [d1, d2, d3] }
  | _ => none }
def thiefChoiceRow : OpenClaim := { program := "ytjnacjniiogjcaagreat", sum := "636bdca7b4bfc142aa2e125d75154c6567bf8168fd7783571f87edae4cd8e6af", func := "magpie/magpielaw17.ThiefChoice", spec := "thiefChoice", unfollowed := true, recurses := true, apart := false }
def ThiefChoiceSaid : Prop := thiefChoiceRow.holds Tryz.pinned (OpenSpec.ofChange thiefChoiceSpec)

/-- ITS FALSE NEIGHBOUR: 'it returns false'. Refute it at one input. -/
def thiefChoiceWrong : ChangeSpec := { name := "thiefChoice", fn := fun _ => fun
  | [d1, d2, d3] => { results := [.lit (.bool false)], args := [d1, d2, d3] }
  | _ => none }
def ThiefChoiceWrongFalsely : Prop := thiefChoiceRow.holds Tryz.pinned (OpenSpec.ofChange thiefChoiceWrong)

/- THE SECOND FORM. 'bulk': how many values and letters a reading holds, each counted each time it is reached (what is shared counts as often as it is met; a slice's spare places count too). A statement '..UptoSaid' is the law's where the arguments, and the package variables that the reading takes, are together of bulk at most 1048576: NARROWER than '..Said'. Prove '..Said' where nothing that the law and all that it calls make is longer than what came in: it says more and counts as full. Else prove '..UptoSaid'. A law counts once. -/
mutual
def uptoBulk {H : Type} : DataW H → Nat
  | .lit (.string bytes) => bytes.length + 1
  | .lit _ => 1
  | .nil => 1
  | .ptr d => uptoBulk d + 1
  | .slice elems spare => uptoBulkAll elems + uptoBulkAll spare + 1
  | .agg parts => uptoBulkAll parts + 1
  | .iface _ d => uptoBulk d + 1
  | .map entries => uptoBulkEntries entries + 1
  | .held _ => 1
def uptoBulkAll {H : Type} : List (DataW H) → Nat
  | [] => 0
  | d :: r => uptoBulk d + uptoBulkAll r
def uptoBulkEntries {H : Type} : List (Lit × DataW H) → Nat
  | [] => 0
  | x :: r => uptoBulkEntry x + uptoBulkEntries r
def uptoBulkEntry {H : Type} : Lit × DataW H → Nat
  | (.string bytes, d) => bytes.length + uptoBulk d + 1
  | (_, d) => uptoBulk d + 1
 end
def uptoSmall : (H : Type) → List (DataW H) → Bool := fun _ ds => decide (uptoBulkAll ds ≤ 1048576)
def OpenSpec.upto (s : _root_.Go.ChangeSpec) : _root_.Go.OpenSpec := { _root_.Go.OpenSpec.ofChange s with cond := some uptoSmall }

/-- 'magpielaw17.ThiefSteps', WHERE WHAT IT READS IS OF BULK AT MOST 1048576: true; the input reads as it did. -/
def thiefStepsUptoRow : OpenClaim := { program := "ytjnacjniiogjcaagreat", sum := "636bdca7b4bfc142aa2e125d75154c6567bf8168fd7783571f87edae4cd8e6af", func := "magpie/magpielaw17.ThiefSteps", spec := "thiefSteps", unfollowed := true, recurses := true, apart := false, narrowed := true }
def ThiefStepsUptoSaid : Prop := thiefStepsUptoRow.holds Tryz.pinned (OpenSpec.upto thiefStepsSpec)

/-- 'magpielaw17.ThiefMixes', WHERE WHAT IT READS IS OF BULK AT MOST 1048576: true; the input reads as it did. -/
def thiefMixesUptoRow : OpenClaim := { program := "ytjnacjniiogjcaagreat", sum := "636bdca7b4bfc142aa2e125d75154c6567bf8168fd7783571f87edae4cd8e6af", func := "magpie/magpielaw17.ThiefMixes", spec := "thiefMixes", unfollowed := true, recurses := true, apart := false, narrowed := true }
def ThiefMixesUptoSaid : Prop := thiefMixesUptoRow.holds Tryz.pinned (OpenSpec.upto thiefMixesSpec)

/-- 'magpielaw17.ThiefAhead', WHERE WHAT IT READS IS OF BULK AT MOST 1048576: true; the input reads as it did. -/
def thiefAheadUptoRow : OpenClaim := { program := "ytjnacjniiogjcaagreat", sum := "636bdca7b4bfc142aa2e125d75154c6567bf8168fd7783571f87edae4cd8e6af", func := "magpie/magpielaw17.ThiefAhead", spec := "thiefAhead", unfollowed := true, recurses := true, apart := false, narrowed := true }
def ThiefAheadUptoSaid : Prop := thiefAheadUptoRow.holds Tryz.pinned (OpenSpec.upto thiefAheadSpec)

/-- 'magpielaw17.ThiefLast', WHERE WHAT IT READS IS OF BULK AT MOST 1048576: true; the input reads as it did. -/
def thiefLastUptoRow : OpenClaim := { program := "ytjnacjniiogjcaagreat", sum := "636bdca7b4bfc142aa2e125d75154c6567bf8168fd7783571f87edae4cd8e6af", func := "magpie/magpielaw17.ThiefLast", spec := "thiefLast", unfollowed := true, recurses := true, apart := false, narrowed := true }
def ThiefLastUptoSaid : Prop := thiefLastUptoRow.holds Tryz.pinned (OpenSpec.upto thiefLastSpec)

/-- 'magpielaw17.ThiefQueues', WHERE WHAT IT READS IS OF BULK AT MOST 1048576: true; the input reads as it did. -/
def thiefQueuesUptoRow : OpenClaim := { program := "ytjnacjniiogjcaagreat", sum := "636bdca7b4bfc142aa2e125d75154c6567bf8168fd7783571f87edae4cd8e6af", func := "magpie/magpielaw17.ThiefQueues", spec := "thiefQueues", unfollowed := true, recurses := true, apart := false, narrowed := true }
def ThiefQueuesUptoSaid : Prop := thiefQueuesUptoRow.holds Tryz.pinned (OpenSpec.upto thiefQueuesSpec)

/-- 'magpielaw17.ThiefChoice', WHERE WHAT IT READS IS OF BULK AT MOST 1048576: true; the input reads as it did. -/
def thiefChoiceUptoRow : OpenClaim := { program := "ytjnacjniiogjcaagreat", sum := "636bdca7b4bfc142aa2e125d75154c6567bf8168fd7783571f87edae4cd8e6af", func := "magpie/magpielaw17.ThiefChoice", spec := "thiefChoice", unfollowed := true, recurses := true, apart := false, narrowed := true }
def ThiefChoiceUptoSaid : Prop := thiefChoiceUptoRow.holds Tryz.pinned (OpenSpec.upto thiefChoiceSpec)

end Rows
end Go.Proofs.YtjnacjniiogjcaaGreat
