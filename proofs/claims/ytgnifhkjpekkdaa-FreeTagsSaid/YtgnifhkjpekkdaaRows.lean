/-
  No cell of these rows narrows 'for every input' (looked for: loops, veiled, ifaces, maps, wideKeys, modest, calm, conditions, laid).
  DERIVED. THE GIVEN ROWS OF THIS SEAT. 14 by the template 'for every input the law returns true; each argument reads behind the call as it read before'; 0 by the template 'total and deterministic' (their statements: YtgnifhkjpekkdaaTotals.lean).
  GIVEN WITH THE SEED: the statements are not yours to turn. If you find one false, say at which input.
  Laid BY PROGRAM, IN A SANDBOX (cutbox-rows.mjs): the forced cells as the released guide's own fill.sh prints them over the translation a312e3a4771c7c7b… (all of the seat's roots in one cut). By AI agents, Wed Nov 11 2026. No macro, syntax, notation, axiom, sorry.
-/
import Derived.Test.YtgnifhkjpekkdaaChecked
import GoSem.Claim
import GoSem.ClaimJoined
import GoSem.ClaimMapViews
import Derived.JoinedTies
import Derived.KernelRfl
namespace Go.Proofs.Ytgnifhkjpekkdaa
/- THE CELL 'sum', in the pinned program and in every row, IS THE sha256 OF THE DUMP (.gsa) THAT YtgnifhkjpekkdaaProg.lean LOADS. Nothing in Lean hashes anything: it is a label: what it is worth is what the hold of that sum in a sandbox is worth. -/
noncomputable def Try.pinned : Pinned := { name := "ytgnifhkjpekkdaa", sum := "a312e3a4771c7c7b44bdf0c3e022bf7af030189cab70493284fa641c0ee4f9aa", checked := Try.checked }
namespace Rows
def none {H : Type} : Left H := { results := [], args := [] }

/-- 'magpielaw08.HandleBack': WHATEVER THE INPUT: true; the input reads as it did. -/
def handleBackSpec : ChangeSpec := { name := "handleBack", fn := fun _ => fun
  | [d1, d2, d3, d4, d5, d6] => { results := [.lit (.bool true)], args := [d1, d2, d3, d4, d5, d6] }
  | _ => none }
def handleBackRow : OpenClaim := { program := "ytgnifhkjpekkdaa", sum := "a312e3a4771c7c7b44bdf0c3e022bf7af030189cab70493284fa641c0ee4f9aa", func := "magpie/magpielaw08.HandleBack", spec := "handleBack", apart := false }
def HandleBackSaid : Prop := handleBackRow.holds Try.pinned (OpenSpec.ofChange handleBackSpec)

/-- ITS FALSE NEIGHBOUR: 'it returns false'. Refute it at one input. -/
def handleBackWrong : ChangeSpec := { name := "handleBack", fn := fun _ => fun
  | [d1, d2, d3, d4, d5, d6] => { results := [.lit (.bool false)], args := [d1, d2, d3, d4, d5, d6] }
  | _ => none }
def HandleBackWrongFalsely : Prop := handleBackRow.holds Try.pinned (OpenSpec.ofChange handleBackWrong)

/-- 'magpielaw08.HandleOrder': WHATEVER THE INPUT: true; the input reads as it did. -/
def handleOrderSpec : ChangeSpec := { name := "handleOrder", fn := fun _ => fun
  | [d1, d2, d3] => { results := [.lit (.bool true)], args := [d1, d2, d3] }
  | _ => none }
def handleOrderRow : OpenClaim := { program := "ytgnifhkjpekkdaa", sum := "a312e3a4771c7c7b44bdf0c3e022bf7af030189cab70493284fa641c0ee4f9aa", func := "magpie/magpielaw08.HandleOrder", spec := "handleOrder", apart := false }
def HandleOrderSaid : Prop := handleOrderRow.holds Try.pinned (OpenSpec.ofChange handleOrderSpec)

/-- ITS FALSE NEIGHBOUR: 'it returns false'. Refute it at one input. -/
def handleOrderWrong : ChangeSpec := { name := "handleOrder", fn := fun _ => fun
  | [d1, d2, d3] => { results := [.lit (.bool false)], args := [d1, d2, d3] }
  | _ => none }
def HandleOrderWrongFalsely : Prop := handleOrderRow.holds Try.pinned (OpenSpec.ofChange handleOrderWrong)

/-- 'magpielaw08.HandleNone': WHATEVER THE INPUT: true; the input reads as it did. -/
def handleNoneSpec : ChangeSpec := { name := "handleNone", fn := fun _ => fun
  | [d1, d2, d3, d4] => { results := [.lit (.bool true)], args := [d1, d2, d3, d4] }
  | _ => none }
def handleNoneRow : OpenClaim := { program := "ytgnifhkjpekkdaa", sum := "a312e3a4771c7c7b44bdf0c3e022bf7af030189cab70493284fa641c0ee4f9aa", func := "magpie/magpielaw08.HandleNone", spec := "handleNone", apart := false }
def HandleNoneSaid : Prop := handleNoneRow.holds Try.pinned (OpenSpec.ofChange handleNoneSpec)

/-- ITS FALSE NEIGHBOUR: 'it returns false'. Refute it at one input. -/
def handleNoneWrong : ChangeSpec := { name := "handleNone", fn := fun _ => fun
  | [d1, d2, d3, d4] => { results := [.lit (.bool false)], args := [d1, d2, d3, d4] }
  | _ => none }
def HandleNoneWrongFalsely : Prop := handleNoneRow.holds Try.pinned (OpenSpec.ofChange handleNoneWrong)

/-- 'magpielaw15.RingWords': WHATEVER THE INPUT: true; the input reads as it did. -/
def ringWordsSpec : ChangeSpec := { name := "ringWords", fn := fun _ => fun
  | [d1, d2] => { results := [.lit (.bool true)], args := [d1, d2] }
  | _ => none }
def ringWordsRow : OpenClaim := { program := "ytgnifhkjpekkdaa", sum := "a312e3a4771c7c7b44bdf0c3e022bf7af030189cab70493284fa641c0ee4f9aa", func := "magpie/magpielaw15.RingWords", spec := "ringWords", unfollowed := true, recurses := true, apart := false }
def RingWordsSaid : Prop := ringWordsRow.holds Try.pinned (OpenSpec.ofChange ringWordsSpec)

/-- ITS FALSE NEIGHBOUR: 'it returns false'. Refute it at one input. -/
def ringWordsWrong : ChangeSpec := { name := "ringWords", fn := fun _ => fun
  | [d1, d2] => { results := [.lit (.bool false)], args := [d1, d2] }
  | _ => none }
def RingWordsWrongFalsely : Prop := ringWordsRow.holds Try.pinned (OpenSpec.ofChange ringWordsWrong)

/-- 'magpielaw15.RingRounds': WHATEVER THE INPUT: true; the input reads as it did. -/
def ringRoundsSpec : ChangeSpec := { name := "ringRounds", fn := fun _ => fun
  | [d1, d2, d3] => { results := [.lit (.bool true)], args := [d1, d2, d3] }
  | _ => none }
def ringRoundsRow : OpenClaim := { program := "ytgnifhkjpekkdaa", sum := "a312e3a4771c7c7b44bdf0c3e022bf7af030189cab70493284fa641c0ee4f9aa", func := "magpie/magpielaw15.RingRounds", spec := "ringRounds", unfollowed := true, recurses := true, apart := false }
def RingRoundsSaid : Prop := ringRoundsRow.holds Try.pinned (OpenSpec.ofChange ringRoundsSpec)

/-- ITS FALSE NEIGHBOUR: 'it returns false'. Refute it at one input. -/
def ringRoundsWrong : ChangeSpec := { name := "ringRounds", fn := fun _ => fun
  | [d1, d2, d3] => { results := [.lit (.bool false)], args := [d1, d2, d3] }
  | _ => none }
def RingRoundsWrongFalsely : Prop := ringRoundsRow.holds Try.pinned (OpenSpec.ofChange ringRoundsWrong)

/-- 'magpielaw15.RingNone': WHATEVER THE INPUT: true; the input reads as it did. -/
def ringNoneSpec : ChangeSpec := { name := "ringNone", fn := fun _ => fun
  | [d1, d2, d3, d4] => { results := [.lit (.bool true)], args := [d1, d2, d3, d4] }
  | _ => none }
def ringNoneRow : OpenClaim := { program := "ytgnifhkjpekkdaa", sum := "a312e3a4771c7c7b44bdf0c3e022bf7af030189cab70493284fa641c0ee4f9aa", func := "magpie/magpielaw15.RingNone", spec := "ringNone", unfollowed := true, recurses := true, apart := false }
def RingNoneSaid : Prop := ringNoneRow.holds Try.pinned (OpenSpec.ofChange ringNoneSpec)

/-- ITS FALSE NEIGHBOUR: 'it returns false'. Refute it at one input. -/
def ringNoneWrong : ChangeSpec := { name := "ringNone", fn := fun _ => fun
  | [d1, d2, d3, d4] => { results := [.lit (.bool false)], args := [d1, d2, d3, d4] }
  | _ => none }
def RingNoneWrongFalsely : Prop := ringNoneRow.holds Try.pinned (OpenSpec.ofChange ringNoneWrong)

/-- 'magpielaw10.FreeStack': WHATEVER THE INPUT: true; the input reads as it did. -/
def freeStackSpec : ChangeSpec := { name := "freeStack", fn := fun _ => fun
  | [d] => { results := [.lit (.bool true)], args := [d] }
  | _ => none }
def freeStackRow : OpenClaim := { program := "ytgnifhkjpekkdaa", sum := "a312e3a4771c7c7b44bdf0c3e022bf7af030189cab70493284fa641c0ee4f9aa", func := "magpie/magpielaw10.FreeStack", spec := "freeStack", unfollowed := true, recurses := true, apart := false }
def FreeStackSaid : Prop := freeStackRow.holds Try.pinned (OpenSpec.ofChange freeStackSpec)

/-- ITS FALSE NEIGHBOUR: 'it returns false'. Refute it at one input. -/
def freeStackWrong : ChangeSpec := { name := "freeStack", fn := fun _ => fun
  | [d] => { results := [.lit (.bool false)], args := [d] }
  | _ => none }
def FreeStackWrongFalsely : Prop := freeStackRow.holds Try.pinned (OpenSpec.ofChange freeStackWrong)

/-- 'magpielaw10.FreeMixes': WHATEVER THE INPUT: true; the input reads as it did. -/
def freeMixesSpec : ChangeSpec := { name := "freeMixes", fn := fun _ => fun
  | [d1, d2] => { results := [.lit (.bool true)], args := [d1, d2] }
  | _ => none }
def freeMixesRow : OpenClaim := { program := "ytgnifhkjpekkdaa", sum := "a312e3a4771c7c7b44bdf0c3e022bf7af030189cab70493284fa641c0ee4f9aa", func := "magpie/magpielaw10.FreeMixes", spec := "freeMixes", unfollowed := true, recurses := true, apart := false }
def FreeMixesSaid : Prop := freeMixesRow.holds Try.pinned (OpenSpec.ofChange freeMixesSpec)

/-- ITS FALSE NEIGHBOUR: 'it returns false'. Refute it at one input. -/
def freeMixesWrong : ChangeSpec := { name := "freeMixes", fn := fun _ => fun
  | [d1, d2] => { results := [.lit (.bool false)], args := [d1, d2] }
  | _ => none }
def FreeMixesWrongFalsely : Prop := freeMixesRow.holds Try.pinned (OpenSpec.ofChange freeMixesWrong)

/-- 'magpielaw10.FreePlaces': WHATEVER THE INPUT: true; the input reads as it did. -/
def freePlacesSpec : ChangeSpec := { name := "freePlaces", fn := fun _ => fun
  | [d1, d2] => { results := [.lit (.bool true)], args := [d1, d2] }
  | _ => none }
def freePlacesRow : OpenClaim := { program := "ytgnifhkjpekkdaa", sum := "a312e3a4771c7c7b44bdf0c3e022bf7af030189cab70493284fa641c0ee4f9aa", func := "magpie/magpielaw10.FreePlaces", spec := "freePlaces", unfollowed := true, recurses := true, apart := false }
def FreePlacesSaid : Prop := freePlacesRow.holds Try.pinned (OpenSpec.ofChange freePlacesSpec)

/-- ITS FALSE NEIGHBOUR: 'it returns false'. Refute it at one input. -/
def freePlacesWrong : ChangeSpec := { name := "freePlaces", fn := fun _ => fun
  | [d1, d2] => { results := [.lit (.bool false)], args := [d1, d2] }
  | _ => none }
def FreePlacesWrongFalsely : Prop := freePlacesRow.holds Try.pinned (OpenSpec.ofChange freePlacesWrong)

/-- 'magpielaw10.FreeTags': WHATEVER THE INPUT: true; the input reads as it did. -/
def freeTagsSpec : ChangeSpec := { name := "freeTags", fn := fun _ => fun
  | [d] => { results := [.lit (.bool true)], args := [d] }
  | _ => none }
def freeTagsRow : OpenClaim := { program := "ytgnifhkjpekkdaa", sum := "a312e3a4771c7c7b44bdf0c3e022bf7af030189cab70493284fa641c0ee4f9aa", func := "magpie/magpielaw10.FreeTags", spec := "freeTags", unfollowed := true, recurses := true, apart := false }
def FreeTagsSaid : Prop := freeTagsRow.holds Try.pinned (OpenSpec.ofChange freeTagsSpec)

/-- ITS FALSE NEIGHBOUR: 'it returns false'. Refute it at one input. -/
def freeTagsWrong : ChangeSpec := { name := "freeTags", fn := fun _ => fun
  | [d] => { results := [.lit (.bool false)], args := [d] }
  | _ => none }
def FreeTagsWrongFalsely : Prop := freeTagsRow.holds Try.pinned (OpenSpec.ofChange freeTagsWrong)

/-- 'magpielaw10.FreeEnds': WHATEVER THE INPUT: true; the input reads as it did. -/
def freeEndsSpec : ChangeSpec := { name := "freeEnds", fn := fun _ => fun
  | [d1, d2] => { results := [.lit (.bool true)], args := [d1, d2] }
  | _ => none }
def freeEndsRow : OpenClaim := { program := "ytgnifhkjpekkdaa", sum := "a312e3a4771c7c7b44bdf0c3e022bf7af030189cab70493284fa641c0ee4f9aa", func := "magpie/magpielaw10.FreeEnds", spec := "freeEnds", unfollowed := true, recurses := true, apart := false }
def FreeEndsSaid : Prop := freeEndsRow.holds Try.pinned (OpenSpec.ofChange freeEndsSpec)

/-- ITS FALSE NEIGHBOUR: 'it returns false'. Refute it at one input. -/
def freeEndsWrong : ChangeSpec := { name := "freeEnds", fn := fun _ => fun
  | [d1, d2] => { results := [.lit (.bool false)], args := [d1, d2] }
  | _ => none }
def FreeEndsWrongFalsely : Prop := freeEndsRow.holds Try.pinned (OpenSpec.ofChange freeEndsWrong)

/-- 'magpielaw09.ArenaApart': WHATEVER THE INPUT: true; the input reads as it did. -/
def arenaApartSpec : ChangeSpec := { name := "arenaApart", fn := fun _ => fun
  | [d1, d2] => { results := [.lit (.bool true)], args := [d1, d2] }
  | _ => none }
def arenaApartRow : OpenClaim := { program := "ytgnifhkjpekkdaa", sum := "a312e3a4771c7c7b44bdf0c3e022bf7af030189cab70493284fa641c0ee4f9aa", func := "magpie/magpielaw09.ArenaApart", spec := "arenaApart", apart := false }
def ArenaApartSaid : Prop := arenaApartRow.holds Try.pinned (OpenSpec.ofChange arenaApartSpec)

/-- ITS FALSE NEIGHBOUR: 'it returns false'. Refute it at one input. -/
def arenaApartWrong : ChangeSpec := { name := "arenaApart", fn := fun _ => fun
  | [d1, d2] => { results := [.lit (.bool false)], args := [d1, d2] }
  | _ => none }
def ArenaApartWrongFalsely : Prop := arenaApartRow.holds Try.pinned (OpenSpec.ofChange arenaApartWrong)

/-- 'magpielaw09.ArenaCounts': WHATEVER THE INPUT: true; the input reads as it did. -/
def arenaCountsSpec : ChangeSpec := { name := "arenaCounts", fn := fun _ => fun
  | [d1, d2] => { results := [.lit (.bool true)], args := [d1, d2] }
  | _ => none }
def arenaCountsRow : OpenClaim := { program := "ytgnifhkjpekkdaa", sum := "a312e3a4771c7c7b44bdf0c3e022bf7af030189cab70493284fa641c0ee4f9aa", func := "magpie/magpielaw09.ArenaCounts", spec := "arenaCounts", apart := false }
def ArenaCountsSaid : Prop := arenaCountsRow.holds Try.pinned (OpenSpec.ofChange arenaCountsSpec)

/-- ITS FALSE NEIGHBOUR: 'it returns false'. Refute it at one input. -/
def arenaCountsWrong : ChangeSpec := { name := "arenaCounts", fn := fun _ => fun
  | [d1, d2] => { results := [.lit (.bool false)], args := [d1, d2] }
  | _ => none }
def ArenaCountsWrongFalsely : Prop := arenaCountsRow.holds Try.pinned (OpenSpec.ofChange arenaCountsWrong)

/-- 'magpielaw15.RingCopies': WHATEVER THE INPUT: true; the input reads as it did. -/
def ringCopiesSpec : ChangeSpec := { name := "ringCopies", fn := fun _ => fun
  | [d1, d2, d3, d4] => { results := [.lit (.bool true)], args := [d1, d2, d3, d4] }
  | _ => none }
def ringCopiesRow : OpenClaim := { program := "ytgnifhkjpekkdaa", sum := "a312e3a4771c7c7b44bdf0c3e022bf7af030189cab70493284fa641c0ee4f9aa", func := "magpie/magpielaw15.RingCopies", spec := "ringCopies", unfollowed := true, recurses := true, apart := false }
def RingCopiesSaid : Prop := ringCopiesRow.holds Try.pinned (OpenSpec.ofChange ringCopiesSpec)

/-- ITS FALSE NEIGHBOUR: 'it returns false'. Refute it at one input. -/
def ringCopiesWrong : ChangeSpec := { name := "ringCopies", fn := fun _ => fun
  | [d1, d2, d3, d4] => { results := [.lit (.bool false)], args := [d1, d2, d3, d4] }
  | _ => none }
def RingCopiesWrongFalsely : Prop := ringCopiesRow.holds Try.pinned (OpenSpec.ofChange ringCopiesWrong)

/- THE SECOND FORM. 'bulk': how many values and letters a reading holds, each counted each time it is reached (what is shared counts as often as it is met; a slice's spare places count too). A statement '..UptoSaid' is the law's where the arguments, and the package variables that the reading takes, are together of bulk at most 1048576: NARROWER than '..Said'. Prove '..Said' where nothing that the law and all that it calls make is longer than what came in: it says more and counts as full. Else prove '..UptoSaid'. A law counts once. -/
mutual
def uptoBulk {H : Type} : DataW H → Nat
  | .lit (.string bytes) => bytes.length + 1
  | .lit _ => 1
  | .nil => 1
  | .ptr d => uptoBulk d + 1
  | .slice elems spare => uptoBulkAll elems + uptoBulkAll spare + 1
  | .agg parts => uptoBulkAll parts + 1
  | .iface _ d => uptoBulk d + 1
  | .map entries => uptoBulkEntries entries + 1
  | .held _ => 1
def uptoBulkAll {H : Type} : List (DataW H) → Nat
  | [] => 0
  | d :: r => uptoBulk d + uptoBulkAll r
def uptoBulkEntries {H : Type} : List (Lit × DataW H) → Nat
  | [] => 0
  | x :: r => uptoBulkEntry x + uptoBulkEntries r
def uptoBulkEntry {H : Type} : Lit × DataW H → Nat
  | (.string bytes, d) => bytes.length + uptoBulk d + 1
  | (_, d) => uptoBulk d + 1
 end
def uptoSmall : (H : Type) → List (DataW H) → Bool := fun _ ds => decide (uptoBulkAll ds ≤ 1048576)
def OpenSpec.upto (s : _root_.Go.ChangeSpec) : _root_.Go.OpenSpec := { _root_.Go.OpenSpec.ofChange s with cond := some uptoSmall }

/-- 'magpielaw08.HandleBack', WHERE WHAT IT READS IS OF BULK AT MOST 1048576: true; the input reads as it did. -/
def handleBackUptoRow : OpenClaim := { program := "ytgnifhkjpekkdaa", sum := "a312e3a4771c7c7b44bdf0c3e022bf7af030189cab70493284fa641c0ee4f9aa", func := "magpie/magpielaw08.HandleBack", spec := "handleBack", apart := false, narrowed := true }
def HandleBackUptoSaid : Prop := handleBackUptoRow.holds Try.pinned (OpenSpec.upto handleBackSpec)

/-- 'magpielaw08.HandleOrder', WHERE WHAT IT READS IS OF BULK AT MOST 1048576: true; the input reads as it did. -/
def handleOrderUptoRow : OpenClaim := { program := "ytgnifhkjpekkdaa", sum := "a312e3a4771c7c7b44bdf0c3e022bf7af030189cab70493284fa641c0ee4f9aa", func := "magpie/magpielaw08.HandleOrder", spec := "handleOrder", apart := false, narrowed := true }
def HandleOrderUptoSaid : Prop := handleOrderUptoRow.holds Try.pinned (OpenSpec.upto handleOrderSpec)

/-- 'magpielaw08.HandleNone', WHERE WHAT IT READS IS OF BULK AT MOST 1048576: true; the input reads as it did. -/
def handleNoneUptoRow : OpenClaim := { program := "ytgnifhkjpekkdaa", sum := "a312e3a4771c7c7b44bdf0c3e022bf7af030189cab70493284fa641c0ee4f9aa", func := "magpie/magpielaw08.HandleNone", spec := "handleNone", apart := false, narrowed := true }
def HandleNoneUptoSaid : Prop := handleNoneUptoRow.holds Try.pinned (OpenSpec.upto handleNoneSpec)

/-- 'magpielaw15.RingWords', WHERE WHAT IT READS IS OF BULK AT MOST 1048576: true; the input reads as it did. -/
def ringWordsUptoRow : OpenClaim := { program := "ytgnifhkjpekkdaa", sum := "a312e3a4771c7c7b44bdf0c3e022bf7af030189cab70493284fa641c0ee4f9aa", func := "magpie/magpielaw15.RingWords", spec := "ringWords", unfollowed := true, recurses := true, apart := false, narrowed := true }
def RingWordsUptoSaid : Prop := ringWordsUptoRow.holds Try.pinned (OpenSpec.upto ringWordsSpec)

/-- 'magpielaw15.RingRounds', WHERE WHAT IT READS IS OF BULK AT MOST 1048576: true; the input reads as it did. -/
def ringRoundsUptoRow : OpenClaim := { program := "ytgnifhkjpekkdaa", sum := "a312e3a4771c7c7b44bdf0c3e022bf7af030189cab70493284fa641c0ee4f9aa", func := "magpie/magpielaw15.RingRounds", spec := "ringRounds", unfollowed := true, recurses := true, apart := false, narrowed := true }
def RingRoundsUptoSaid : Prop := ringRoundsUptoRow.holds Try.pinned (OpenSpec.upto ringRoundsSpec)

/-- 'magpielaw15.RingNone', WHERE WHAT IT READS IS OF BULK AT MOST 1048576: true; the input reads as it did. -/
def ringNoneUptoRow : OpenClaim := { program := "ytgnifhkjpekkdaa", sum := "a312e3a4771c7c7b44bdf0c3e022bf7af030189cab70493284fa641c0ee4f9aa", func := "magpie/magpielaw15.RingNone", spec := "ringNone", unfollowed := true, recurses := true, apart := false, narrowed := true }
def RingNoneUptoSaid : Prop := ringNoneUptoRow.holds Try.pinned (OpenSpec.upto ringNoneSpec)

/-- 'magpielaw10.FreeStack', WHERE WHAT IT READS IS OF BULK AT MOST 1048576: true; the input reads as it did. -/
def freeStackUptoRow : OpenClaim := { program := "ytgnifhkjpekkdaa", sum := "a312e3a4771c7c7b44bdf0c3e022bf7af030189cab70493284fa641c0ee4f9aa", func := "magpie/magpielaw10.FreeStack", spec := "freeStack", unfollowed := true, recurses := true, apart := false, narrowed := true }
def FreeStackUptoSaid : Prop := freeStackUptoRow.holds Try.pinned (OpenSpec.upto freeStackSpec)

/-- 'magpielaw10.FreeMixes', WHERE WHAT IT READS IS OF BULK AT MOST 1048576: true; the input reads as it did. -/
def freeMixesUptoRow : OpenClaim := { program := "ytgnifhkjpekkdaa", sum := "a312e3a4771c7c7b44bdf0c3e022bf7af030189cab70493284fa641c0ee4f9aa", func := "magpie/magpielaw10.FreeMixes", spec := "freeMixes", unfollowed := true, recurses := true, apart := false, narrowed := true }
def FreeMixesUptoSaid : Prop := freeMixesUptoRow.holds Try.pinned (OpenSpec.upto freeMixesSpec)

/-- 'magpielaw10.FreePlaces', WHERE WHAT IT READS IS OF BULK AT MOST 1048576: true; the input reads as it did. -/
def freePlacesUptoRow : OpenClaim := { program := "ytgnifhkjpekkdaa", sum := "a312e3a4771c7c7b44bdf0c3e022bf7af030189cab70493284fa641c0ee4f9aa", func := "magpie/magpielaw10.FreePlaces", spec := "freePlaces", unfollowed := true, recurses := true, apart := false, narrowed := true }
def FreePlacesUptoSaid : Prop := freePlacesUptoRow.holds Try.pinned (OpenSpec.upto freePlacesSpec)

/-- 'magpielaw10.FreeTags', WHERE WHAT IT READS IS OF BULK AT MOST 1048576: true; the input reads as it did. -/
def freeTagsUptoRow : OpenClaim := { program := "ytgnifhkjpekkdaa", sum := "a312e3a4771c7c7b44bdf0c3e022bf7af030189cab70493284fa641c0ee4f9aa", func := "magpie/magpielaw10.FreeTags", spec := "freeTags", unfollowed := true, recurses := true, apart := false, narrowed := true }
def FreeTagsUptoSaid : Prop := freeTagsUptoRow.holds Try.pinned (OpenSpec.upto freeTagsSpec)

/-- 'magpielaw10.FreeEnds', WHERE WHAT IT READS IS OF BULK AT MOST 1048576: true; the input reads as it did. -/
def freeEndsUptoRow : OpenClaim := { program := "ytgnifhkjpekkdaa", sum := "a312e3a4771c7c7b44bdf0c3e022bf7af030189cab70493284fa641c0ee4f9aa", func := "magpie/magpielaw10.FreeEnds", spec := "freeEnds", unfollowed := true, recurses := true, apart := false, narrowed := true }
def FreeEndsUptoSaid : Prop := freeEndsUptoRow.holds Try.pinned (OpenSpec.upto freeEndsSpec)

/-- 'magpielaw09.ArenaApart', WHERE WHAT IT READS IS OF BULK AT MOST 1048576: true; the input reads as it did. -/
def arenaApartUptoRow : OpenClaim := { program := "ytgnifhkjpekkdaa", sum := "a312e3a4771c7c7b44bdf0c3e022bf7af030189cab70493284fa641c0ee4f9aa", func := "magpie/magpielaw09.ArenaApart", spec := "arenaApart", apart := false, narrowed := true }
def ArenaApartUptoSaid : Prop := arenaApartUptoRow.holds Try.pinned (OpenSpec.upto arenaApartSpec)

/-- 'magpielaw09.ArenaCounts', WHERE WHAT IT READS IS OF BULK AT MOST 1048576: true; the input reads as it did. -/
def arenaCountsUptoRow : OpenClaim := { program := "ytgnifhkjpekkdaa", sum := "a312e3a4771c7c7b44bdf0c3e022bf7af030189cab70493284fa641c0ee4f9aa", func := "magpie/magpielaw09.ArenaCounts", spec := "arenaCounts", apart := false, narrowed := true }
def ArenaCountsUptoSaid : Prop := arenaCountsUptoRow.holds Try.pinned (OpenSpec.upto arenaCountsSpec)

/-- 'magpielaw15.RingCopies', WHERE WHAT IT READS IS OF BULK AT MOST 1048576: true; the input reads as it did. -/
def ringCopiesUptoRow : OpenClaim := { program := "ytgnifhkjpekkdaa", sum := "a312e3a4771c7c7b44bdf0c3e022bf7af030189cab70493284fa641c0ee4f9aa", func := "magpie/magpielaw15.RingCopies", spec := "ringCopies", unfollowed := true, recurses := true, apart := false, narrowed := true }
def RingCopiesUptoSaid : Prop := ringCopiesUptoRow.holds Try.pinned (OpenSpec.upto ringCopiesSpec)

end Rows
end Go.Proofs.Ytgnifhkjpekkdaa
