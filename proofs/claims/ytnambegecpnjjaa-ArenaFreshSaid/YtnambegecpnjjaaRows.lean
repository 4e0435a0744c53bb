/-
  No cell of these rows narrows 'for every input' (looked for: loops, veiled, ifaces, maps, wideKeys, modest, calm, conditions, laid).
  DERIVED. THE GIVEN ROWS OF THIS SEAT. 3 by the template 'for every input the law returns true; each argument reads behind the call as it read before'; 0 by the template 'total and deterministic' (their statements: YtnambegecpnjjaaTotals.lean).
  GIVEN WITH THE SEED: the statements are not yours to turn. If you find one false, say at which input.
  Laid BY PROGRAM, IN A SANDBOX (cutbox-rows.mjs): the forced cells as the released guide's own fill.sh prints them over the translation 22613979f181b56e… (all of the seat's roots in one cut). By AI agents, Wed Nov 11 2026. No macro, syntax, notation, axiom, sorry.
-/
import Derived.Test.YtnambegecpnjjaaChecked
import GoSem.Claim
import GoSem.ClaimJoined
import GoSem.ClaimMapViews
import Derived.JoinedTies
import Derived.KernelRfl
namespace Go.Proofs.Ytnambegecpnjjaa
/- THE CELL 'sum', in the pinned program and in every row, IS THE sha256 OF THE DUMP (.gsa) THAT YtnambegecpnjjaaProg.lean LOADS. Nothing in Lean hashes anything: it is a label: what it is worth is what the hold of that sum in a sandbox is worth. -/
noncomputable def Try.pinned : Pinned := { name := "ytnambegecpnjjaa", sum := "22613979f181b56edbf3463fd4b6de773c1de8614b1ba7a4ced0c406652c0600", checked := Try.checked }
namespace Rows
def none {H : Type} : Left H := { results := [], args := [] }

/-- 'magpielaw09.ArenaFresh': WHATEVER THE INPUT: true; the input reads as it did. -/
def arenaFreshSpec : ChangeSpec := { name := "arenaFresh", fn := fun _ => fun
  | [d] => { results := [.lit (.bool true)], args := [d] }
  | _ => none }
def arenaFreshRow : OpenClaim := { program := "ytnambegecpnjjaa", sum := "22613979f181b56edbf3463fd4b6de773c1de8614b1ba7a4ced0c406652c0600", func := "magpie/magpielaw09.ArenaFresh", spec := "arenaFresh", apart := false }
def ArenaFreshSaid : Prop := arenaFreshRow.holds Try.pinned (OpenSpec.ofChange arenaFreshSpec)

/-- ITS FALSE NEIGHBOUR: 'it returns false'. Refute it at one input. -/
def arenaFreshWrong : ChangeSpec := { name := "arenaFresh", fn := fun _ => fun
  | [d] => { results := [.lit (.bool false)], args := [d] }
  | _ => none }
def ArenaFreshWrongFalsely : Prop := arenaFreshRow.holds Try.pinned (OpenSpec.ofChange arenaFreshWrong)

/-- 'magpielaw09.ArenaFaults': WHATEVER THE INPUT: true; the input reads as it did. -/
def arenaFaultsSpec : ChangeSpec := { name := "arenaFaults", fn := fun _ => fun
  | [d1, d2, d3] => { results := [.lit (.bool true)], args := [d1, d2, d3] }
  | _ => none }
def arenaFaultsRow : OpenClaim := { program := "ytnambegecpnjjaa", sum := "22613979f181b56edbf3463fd4b6de773c1de8614b1ba7a4ced0c406652c0600", func := "magpie/magpielaw09.ArenaFaults", spec := "arenaFaults", apart := false }
def ArenaFaultsSaid : Prop := arenaFaultsRow.holds Try.pinned (OpenSpec.ofChange arenaFaultsSpec)

/-- ITS FALSE NEIGHBOUR: 'it returns false'. Refute it at one input. -/
def arenaFaultsWrong : ChangeSpec := { name := "arenaFaults", fn := fun _ => fun
  | [d1, d2, d3] => { results := [.lit (.bool false)], args := [d1, d2, d3] }
  | _ => none }
def ArenaFaultsWrongFalsely : Prop := arenaFaultsRow.holds Try.pinned (OpenSpec.ofChange arenaFaultsWrong)

/-- 'magpielaw09.ArenaRaws': WHATEVER THE INPUT: true; the input reads as it did. -/
def arenaRawsSpec : ChangeSpec := { name := "arenaRaws", fn := fun _ => fun
  | [d1, d2] => { results := [.lit (.bool true)], args := [d1, d2] }
  | _ => none }
def arenaRawsRow : OpenClaim := { program := "ytnambegecpnjjaa", sum := "22613979f181b56edbf3463fd4b6de773c1de8614b1ba7a4ced0c406652c0600", func := "magpie/magpielaw09.ArenaRaws", spec := "arenaRaws", apart := false }
def ArenaRawsSaid : Prop := arenaRawsRow.holds Try.pinned (OpenSpec.ofChange arenaRawsSpec)

/-- ITS FALSE NEIGHBOUR: 'it returns false'. Refute it at one input. -/
def arenaRawsWrong : ChangeSpec := { name := "arenaRaws", fn := fun _ => fun
  | [d1, d2] => { results := [.lit (.bool false)], args := [d1, d2] }
  | _ => none }
def ArenaRawsWrongFalsely : Prop := arenaRawsRow.holds Try.pinned (OpenSpec.ofChange arenaRawsWrong)

/- THE SECOND FORM. 'bulk': how many values and letters a reading holds, each counted each time it is reached (what is shared counts as often as it is met; a slice's spare places count too). A statement '..UptoSaid' is the law's where the arguments, and the package variables that the reading takes, are together of bulk at most 1048576: NARROWER than '..Said'. Prove '..Said' where nothing that the law and all that it calls make is longer than what came in: it says more and counts as full. Else prove '..UptoSaid'. A law counts once. -/
mutual
def uptoBulk {H : Type} : DataW H → Nat
  | .lit (.string bytes) => bytes.length + 1
  | .lit _ => 1
  | .nil => 1
  | .ptr d => uptoBulk d + 1
  | .slice elems spare => uptoBulkAll elems + uptoBulkAll spare + 1
  | .agg parts => uptoBulkAll parts + 1
  | .iface _ d => uptoBulk d + 1
  | .map entries => uptoBulkEntries entries + 1
  | .held _ => 1
def uptoBulkAll {H : Type} : List (DataW H) → Nat
  | [] => 0
  | d :: r => uptoBulk d + uptoBulkAll r
def uptoBulkEntries {H : Type} : List (Lit × DataW H) → Nat
  | [] => 0
  | x :: r => uptoBulkEntry x + uptoBulkEntries r
def uptoBulkEntry {H : Type} : Lit × DataW H → Nat
  | (.string bytes, d) => bytes.length + uptoBulk d + 1
  | (_, d) => uptoBulk d + 1
 end
def uptoSmall : (H : Type) → List (DataW H) → Bool := fun _ ds => decide (uptoBulkAll ds ≤ 1048576)
def OpenSpec.upto (s : _root_.Go.ChangeSpec) : _root_.Go.OpenSpec := { _root_.Go.OpenSpec.ofChange s with cond := some uptoSmall }

/-- 'magpielaw09.ArenaFresh', WHERE WHAT IT READS IS OF BULK AT MOST 1048576: true; the input reads as it did. -/
def arenaFreshUptoRow : OpenClaim := { program := "ytnambegecpnjjaa", sum := "22613979f181b56edbf3463fd4b6de773c1de8614b1ba7a4ced0c406652c0600", func := "magpie/magpielaw09.ArenaFresh", spec := "arenaFresh", apart := false, narrowed := true }
def ArenaFreshUptoSaid : Prop := arenaFreshUptoRow.holds Try.pinned (OpenSpec.upto arenaFreshSpec)

/-- 'magpielaw09.ArenaFaults', WHERE WHAT IT READS IS OF BULK AT MOST 1048576: true; the input reads as it did. -/
def arenaFaultsUptoRow : OpenClaim := { program := "ytnambegecpnjjaa", sum := "22613979f181b56edbf3463fd4b6de773c1de8614b1ba7a4ced0c406652c0600", func := "magpie/magpielaw09.ArenaFaults", spec := "arenaFaults", apart := false, narrowed := true }
def ArenaFaultsUptoSaid : Prop := arenaFaultsUptoRow.holds Try.pinned (OpenSpec.upto arenaFaultsSpec)

/-- 'magpielaw09.ArenaRaws', WHERE WHAT IT READS IS OF BULK AT MOST 1048576: true; the input reads as it did. -/
def arenaRawsUptoRow : OpenClaim := { program := "ytnambegecpnjjaa", sum := "22613979f181b56edbf3463fd4b6de773c1de8614b1ba7a4ced0c406652c0600", func := "magpie/magpielaw09.ArenaRaws", spec := "arenaRaws", apart := false, narrowed := true }
def ArenaRawsUptoSaid : Prop := arenaRawsUptoRow.holds Try.pinned (OpenSpec.upto arenaRawsSpec)

end Rows
end Go.Proofs.Ytnambegecpnjjaa
