/-
  No cell of these rows narrows 'for every input' (looked for: loops, veiled, ifaces, maps, wideKeys, modest, calm, conditions, laid).
  DERIVED. THE GIVEN ROWS OF THIS SEAT. 5 by the template 'for every input the law returns true; each argument reads behind the call as it read before'; 0 by the template 'total and deterministic' (their statements: YtjleoogieoahnaaTotals.lean).
  GIVEN WITH THE SEED: the statements are not yours to turn. If you find one false, say at which input.
  Laid BY PROGRAM, IN A SANDBOX (cutbox-rows.mjs): the forced cells as the released guide's own fill.sh prints them over the translation d6ee3fce4cd91936… (all of the seat's roots in one cut). By AI agents, Wed Nov 11 2026. No macro, syntax, notation, axiom, sorry.
-/
import Derived.Test.YtjleoogieoahnaaChecked
import GoSem.Claim
import GoSem.ClaimJoined
import GoSem.ClaimMapViews
import Derived.JoinedTies
import Derived.KernelRfl
namespace Go.Proofs.Ytjleoogieoahnaa
/- THE CELL 'sum', in the pinned program and in every row, IS THE sha256 OF THE DUMP (.gsa) THAT YtjleoogieoahnaaProg.lean LOADS. Nothing in Lean hashes anything: it is a label: what it is worth is what the hold of that sum in a sandbox is worth. -/
noncomputable def Try.pinned : Pinned := { name := "ytjleoogieoahnaa", sum := "d6ee3fce4cd91936ce28bd47a155f87d4907255db0e4e7430d141958f0ffd3e7", checked := Try.checked }
namespace Rows
def none {H : Type} : Left H := { results := [], args := [] }

/-- 'magpielaw10.FreeMixes': WHATEVER THE INPUT: true; the input reads as it did. -/
def freeMixesSpec : ChangeSpec := { name := "freeMixes", fn := fun _ => fun
  | [d1, d2] => { results := [.lit (.bool true)], args := [d1, d2] }
  | _ => none }
def freeMixesRow : OpenClaim := { program := "ytjleoogieoahnaa", sum := "d6ee3fce4cd91936ce28bd47a155f87d4907255db0e4e7430d141958f0ffd3e7", func := "magpie/magpielaw10.FreeMixes", spec := "freeMixes", unfollowed := true, recurses := true, apart := false }
def FreeMixesSaid : Prop := freeMixesRow.holds Try.pinned (OpenSpec.ofChange freeMixesSpec)

/-- ITS FALSE NEIGHBOUR: 'it returns false'. Refute it at one input. -/
def freeMixesWrong : ChangeSpec := { name := "freeMixes", fn := fun _ => fun
  | [d1, d2] => { results := [.lit (.bool false)], args := [d1, d2] }
  | _ => none }
def FreeMixesWrongFalsely : Prop := freeMixesRow.holds Try.pinned (OpenSpec.ofChange freeMixesWrong)

/-- 'magpielaw09.ArenaApart': WHATEVER THE INPUT: true; the input reads as it did. -/
def arenaApartSpec : ChangeSpec := { name := "arenaApart", fn := fun _ => fun
  | [d1, d2] => { results := [.lit (.bool true)], args := [d1, d2] }
  | _ => none }
def arenaApartRow : OpenClaim := { program := "ytjleoogieoahnaa", sum := "d6ee3fce4cd91936ce28bd47a155f87d4907255db0e4e7430d141958f0ffd3e7", func := "magpie/magpielaw09.ArenaApart", spec := "arenaApart", apart := false }
def ArenaApartSaid : Prop := arenaApartRow.holds Try.pinned (OpenSpec.ofChange arenaApartSpec)

/-- ITS FALSE NEIGHBOUR: 'it returns false'. Refute it at one input. -/
def arenaApartWrong : ChangeSpec := { name := "arenaApart", fn := fun _ => fun
  | [d1, d2] => { results := [.lit (.bool false)], args := [d1, d2] }
  | _ => none }
def ArenaApartWrongFalsely : Prop := arenaApartRow.holds Try.pinned (OpenSpec.ofChange arenaApartWrong)

/-- 'magpielaw19.FutureSteps': WHATEVER THE INPUT: true; the input reads as it did. -/
def futureStepsSpec : ChangeSpec := { name := "futureSteps", fn := fun _ => fun
  | [d1, d2, d3] => { results := [.lit (.bool true)], args := [d1, d2, d3] }
  | _ => none }
def futureStepsRow : OpenClaim := { program := "ytjleoogieoahnaa", sum := "d6ee3fce4cd91936ce28bd47a155f87d4907255db0e4e7430d141958f0ffd3e7", func := "magpie/magpielaw19.FutureSteps", spec := "futureSteps", unfollowed := true, recurses := true, apart := false }
def FutureStepsSaid : Prop := futureStepsRow.holds Try.pinned (OpenSpec.ofChange futureStepsSpec)

/-- ITS FALSE NEIGHBOUR: 'it returns false'. Refute it at one input. -/
def futureStepsWrong : ChangeSpec := { name := "futureSteps", fn := fun _ => fun
  | [d1, d2, d3] => { results := [.lit (.bool false)], args := [d1, d2, d3] }
  | _ => none }
def FutureStepsWrongFalsely : Prop := futureStepsRow.holds Try.pinned (OpenSpec.ofChange futureStepsWrong)

/-- 'magpielaw19.FutureOnce': WHATEVER THE INPUT: true; the input reads as it did. -/
def futureOnceSpec : ChangeSpec := { name := "futureOnce", fn := fun _ => fun
  | [d1, d2, d3] => { results := [.lit (.bool true)], args := [d1, d2, d3] }
  | _ => none }
def futureOnceRow : OpenClaim := { program := "ytjleoogieoahnaa", sum := "d6ee3fce4cd91936ce28bd47a155f87d4907255db0e4e7430d141958f0ffd3e7", func := "magpie/magpielaw19.FutureOnce", spec := "futureOnce", unfollowed := true, recurses := true, apart := false }
def FutureOnceSaid : Prop := futureOnceRow.holds Try.pinned (OpenSpec.ofChange futureOnceSpec)

/-- ITS FALSE NEIGHBOUR: 'it returns false'. Refute it at one input. -/
def futureOnceWrong : ChangeSpec := { name := "futureOnce", fn := fun _ => fun
  | [d1, d2, d3] => { results := [.lit (.bool false)], args := [d1, d2, d3] }
  | _ => none }
def FutureOnceWrongFalsely : Prop := futureOnceRow.holds Try.pinned (OpenSpec.ofChange futureOnceWrong)

/-- 'magpielaw19.FutureMany': WHATEVER THE INPUT: true; the input reads as it did. -/
def futureManySpec : ChangeSpec := { name := "futureMany", fn := fun _ => fun
  | [d1, d2, d3] => { results := [.lit (.bool true)], args := [d1, d2, d3] }
  | _ => none }
def futureManyRow : OpenClaim := { program := "ytjleoogieoahnaa", sum := "d6ee3fce4cd91936ce28bd47a155f87d4907255db0e4e7430d141958f0ffd3e7", func := "magpie/magpielaw19.FutureMany", spec := "futureMany", unfollowed := true, recurses := true, apart := false }
def FutureManySaid : Prop := futureManyRow.holds Try.pinned (OpenSpec.ofChange futureManySpec)

/-- ITS FALSE NEIGHBOUR: 'it returns false'. Refute it at one input. -/
def futureManyWrong : ChangeSpec := { name := "futureMany", fn := fun _ => fun
  | [d1, d2, d3] => { results := [.lit (.bool false)], args := [d1, d2, d3] }
  | _ => none }
def FutureManyWrongFalsely : Prop := futureManyRow.holds Try.pinned (OpenSpec.ofChange futureManyWrong)

/- THE SECOND FORM. 'bulk': how many values and letters a reading holds, each counted each time it is reached (what is shared counts as often as it is met; a slice's spare places count too). A statement '..UptoSaid' is the law's where the arguments, and the package variables that the reading takes, are together of bulk at most 1048576: NARROWER than '..Said'. Prove '..Said' where nothing that the law and all that it calls make is longer than what came in: it says more and counts as full. Else prove '..UptoSaid'. A law counts once. -/
mutual
def uptoBulk {H : Type} : DataW H → Nat
  | .lit (.string bytes) => bytes.length + 1
  | .lit _ => 1
  | .nil => 1
  | .ptr d => uptoBulk d + 1
  | .slice elems spare => uptoBulkAll elems + uptoBulkAll spare + 1
  | .agg parts => uptoBulkAll parts + 1
  | .iface _ d => uptoBulk d + 1
  | .map entries => uptoBulkEntries entries + 1
  | .held _ => 1
def uptoBulkAll {H : Type} : List (DataW H) → Nat
  | [] => 0
  | d :: r => uptoBulk d + uptoBulkAll r
def uptoBulkEntries {H : Type} : List (Lit × DataW H) → Nat
  | [] => 0
  | x :: r => uptoBulkEntry x + uptoBulkEntries r
def uptoBulkEntry {H : Type} : Lit × DataW H → Nat
  | (.string bytes, d) => bytes.length + uptoBulk d + 1
  | (_, d) => uptoBulk d + 1
 end
def uptoSmall : (H : Type) → List (DataW H) → Bool := fun _ ds => decide (uptoBulkAll ds ≤ 1048576)
def OpenSpec.upto (s : _root_.Go.ChangeSpec) : _root_.Go.OpenSpec := { _root_.Go.OpenSpec.ofChange s with cond := some uptoSmall }

/-- 'magpielaw10.FreeMixes', WHERE WHAT IT READS IS OF BULK AT MOST 1048576: true; the input reads as it did. -/
def freeMixesUptoRow : OpenClaim := { program := "ytjleoogieoahnaa", sum := "d6ee3fce4cd91936ce28bd47a155f87d4907255db0e4e7430d141958f0ffd3e7", func := "magpie/magpielaw10.FreeMixes", spec := "freeMixes", unfollowed := true, recurses := true, apart := false, narrowed := true }
def FreeMixesUptoSaid : Prop := freeMixesUptoRow.holds Try.pinned (OpenSpec.upto freeMixesSpec)

/-- 'magpielaw09.ArenaApart', WHERE WHAT IT READS IS OF BULK AT MOST 1048576: true; the input reads as it did. -/
def arenaApartUptoRow : OpenClaim := { program := "ytjleoogieoahnaa", sum := "d6ee3fce4cd91936ce28bd47a155f87d4907255db0e4e7430d141958f0ffd3e7", func := "magpie/magpielaw09.ArenaApart", spec := "arenaApart", apart := false, narrowed := true }
def ArenaApartUptoSaid : Prop := arenaApartUptoRow.holds Try.pinned (OpenSpec.upto arenaApartSpec)

/-- 'magpielaw19.FutureSteps', WHERE WHAT IT READS IS OF BULK AT MOST 1048576: true; the input reads as it did. -/
def futureStepsUptoRow : OpenClaim := { program := "ytjleoogieoahnaa", sum := "d6ee3fce4cd91936ce28bd47a155f87d4907255db0e4e7430d141958f0ffd3e7", func := "magpie/magpielaw19.FutureSteps", spec := "futureSteps", unfollowed := true, recurses := true, apart := false, narrowed := true }
def FutureStepsUptoSaid : Prop := futureStepsUptoRow.holds Try.pinned (OpenSpec.upto futureStepsSpec)

/-- 'magpielaw19.FutureOnce', WHERE WHAT IT READS IS OF BULK AT MOST 1048576: true; the input reads as it did. -/
def futureOnceUptoRow : OpenClaim := { program := "ytjleoogieoahnaa", sum := "d6ee3fce4cd91936ce28bd47a155f87d4907255db0e4e7430d141958f0ffd3e7", func := "magpie/magpielaw19.FutureOnce", spec := "futureOnce", unfollowed := true, recurses := true, apart := false, narrowed := true }
def FutureOnceUptoSaid : Prop := futureOnceUptoRow.holds Try.pinned (OpenSpec.upto futureOnceSpec)

/-- 'magpielaw19.FutureMany', WHERE WHAT IT READS IS OF BULK AT MOST 1048576: true; the input reads as it did. -/
def futureManyUptoRow : OpenClaim := { program := "ytjleoogieoahnaa", sum := "d6ee3fce4cd91936ce28bd47a155f87d4907255db0e4e7430d141958f0ffd3e7", func := "magpie/magpielaw19.FutureMany", spec := "futureMany", unfollowed := true, recurses := true, apart := false, narrowed := true }
def FutureManyUptoSaid : Prop := futureManyUptoRow.holds Try.pinned (OpenSpec.upto futureManySpec)

end Rows
end Go.Proofs.Ytjleoogieoahnaa
