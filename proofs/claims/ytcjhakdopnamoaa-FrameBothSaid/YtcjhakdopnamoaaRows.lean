/-
  No cell of these rows narrows 'for every input' (looked for: loops, veiled, ifaces, maps, wideKeys, modest, calm, conditions, laid).
  DERIVED. THE GIVEN ROWS OF THIS SEAT. 13 by the template 'for every input the law returns true; each argument reads behind the call as it read before'; 0 by the template 'total and deterministic' (their statements: YtcjhakdopnamoaaTotals.lean).
  GIVEN WITH THE SEED: the statements are not yours to turn. If you find one false, say at which input.
  Laid BY PROGRAM, IN A SANDBOX (cutbox-rows.mjs): the forced cells as the released guide's own fill.sh prints them over the translation 04e10235cd3a2970… (all of the seat's roots in one cut). By AI agents, Wed Nov 11 2026. No macro, syntax, notation, axiom, sorry.
-/
import Derived.Test.YtcjhakdopnamoaaChecked
import GoSem.Claim
import GoSem.ClaimJoined
import GoSem.ClaimMapViews
import Derived.JoinedTies
import Derived.KernelRfl
namespace Go.Proofs.Ytcjhakdopnamoaa
/- THE CELL 'sum', in the pinned program and in every row, IS THE sha256 OF THE DUMP (.gsa) THAT YtcjhakdopnamoaaProg.lean LOADS. Nothing in Lean hashes anything: it is a label: what it is worth is what the hold of that sum in a sandbox is worth. -/
noncomputable def Try.pinned : Pinned := { name := "ytcjhakdopnamoaa", sum := "04e10235cd3a2970367234ad2bdf45306f5cf0961705f8900df07224668d36b2", checked := Try.checked }
namespace Rows
def none {H : Type} : Left H := { results := [], args := [] }

/-- 'magpielaw14.GuardLeft': WHATEVER THE INPUT: true; the input reads as it did. -/
def guardLeftSpec : ChangeSpec := { name := "guardLeft", fn := fun _ => fun
  | [d1, d2] => { results := [.lit (.bool true)], args := [d1, d2] }
  | _ => none }
def guardLeftRow : OpenClaim := { program := "ytcjhakdopnamoaa", sum := "04e10235cd3a2970367234ad2bdf45306f5cf0961705f8900df07224668d36b2", func := "magpie/magpielaw14.GuardLeft", spec := "guardLeft", unfollowed := true, recurses := true, apart := false }
def GuardLeftSaid : Prop := guardLeftRow.holds Try.pinned (OpenSpec.ofChange guardLeftSpec)

/-- ITS FALSE NEIGHBOUR: 'it returns false'. Refute it at one input. -/
def guardLeftWrong : ChangeSpec := { name := "guardLeft", fn := fun _ => fun
  | [d1, d2] => { results := [.lit (.bool false)], args := [d1, d2] }
  | _ => none }
def GuardLeftWrongFalsely : Prop := guardLeftRow.holds Try.pinned (OpenSpec.ofChange guardLeftWrong)

/-- 'magpielaw14.GuardForces': WHATEVER THE INPUT: true; the input reads as it did. -/
def guardForcesSpec : ChangeSpec := { name := "guardForces", fn := fun _ => fun
  | [d1, d2, d3] => { results := [.lit (.bool true)], args := [d1, d2, d3] }
  | _ => none }
def guardForcesRow : OpenClaim := { program := "ytcjhakdopnamoaa", sum := "04e10235cd3a2970367234ad2bdf45306f5cf0961705f8900df07224668d36b2", func := "magpie/magpielaw14.GuardForces", spec := "guardForces", unfollowed := true, recurses := true, apart := false }
def GuardForcesSaid : Prop := guardForcesRow.holds Try.pinned (OpenSpec.ofChange guardForcesSpec)

/-- ITS FALSE NEIGHBOUR: 'it returns false'. Refute it at one input. -/
def guardForcesWrong : ChangeSpec := { name := "guardForces", fn := fun _ => fun
  | [d1, d2, d3] => { results := [.lit (.bool false)], args := [d1, d2, d3] }
  | _ => none }
def GuardForcesWrongFalsely : Prop := guardForcesRow.holds Try.pinned (OpenSpec.ofChange guardForcesWrong)

/-- 'magpielaw14.GuardModes': WHATEVER THE INPUT: true; the input reads as it did. -/
def guardModesSpec : ChangeSpec := { name := "guardModes", fn := fun _ => fun
  | [d1, d2, d3, d4] => { results := [.lit (.bool true)], args := [d1, d2, d3, d4] }
  | _ => none }
def guardModesRow : OpenClaim := { program := "ytcjhakdopnamoaa", sum := "04e10235cd3a2970367234ad2bdf45306f5cf0961705f8900df07224668d36b2", func := "magpie/magpielaw14.GuardModes", spec := "guardModes", unfollowed := true, recurses := true, apart := false }
def GuardModesSaid : Prop := guardModesRow.holds Try.pinned (OpenSpec.ofChange guardModesSpec)

/-- ITS FALSE NEIGHBOUR: 'it returns false'. Refute it at one input. -/
def guardModesWrong : ChangeSpec := { name := "guardModes", fn := fun _ => fun
  | [d1, d2, d3, d4] => { results := [.lit (.bool false)], args := [d1, d2, d3, d4] }
  | _ => none }
def GuardModesWrongFalsely : Prop := guardModesRow.holds Try.pinned (OpenSpec.ofChange guardModesWrong)

/-- 'magpielaw14.GuardBounds': WHATEVER THE INPUT: true; the input reads as it did. -/
def guardBoundsSpec : ChangeSpec := { name := "guardBounds", fn := fun _ => fun
  | [d1, d2, d3, d4] => { results := [.lit (.bool true)], args := [d1, d2, d3, d4] }
  | _ => none }
def guardBoundsRow : OpenClaim := { program := "ytcjhakdopnamoaa", sum := "04e10235cd3a2970367234ad2bdf45306f5cf0961705f8900df07224668d36b2", func := "magpie/magpielaw14.GuardBounds", spec := "guardBounds", unfollowed := true, recurses := true, apart := false }
def GuardBoundsSaid : Prop := guardBoundsRow.holds Try.pinned (OpenSpec.ofChange guardBoundsSpec)

/-- ITS FALSE NEIGHBOUR: 'it returns false'. Refute it at one input. -/
def guardBoundsWrong : ChangeSpec := { name := "guardBounds", fn := fun _ => fun
  | [d1, d2, d3, d4] => { results := [.lit (.bool false)], args := [d1, d2, d3, d4] }
  | _ => none }
def GuardBoundsWrongFalsely : Prop := guardBoundsRow.holds Try.pinned (OpenSpec.ofChange guardBoundsWrong)

/-- 'magpielaw16.DequeRetires': WHATEVER THE INPUT: true; the input reads as it did. -/
def dequeRetiresSpec : ChangeSpec := { name := "dequeRetires", fn := fun _ => fun
  | [d] => { results := [.lit (.bool true)], args := [d] }
  | _ => none }
def dequeRetiresRow : OpenClaim := { program := "ytcjhakdopnamoaa", sum := "04e10235cd3a2970367234ad2bdf45306f5cf0961705f8900df07224668d36b2", func := "magpie/magpielaw16.DequeRetires", spec := "dequeRetires", unfollowed := true, recurses := true, apart := false }
def DequeRetiresSaid : Prop := dequeRetiresRow.holds Try.pinned (OpenSpec.ofChange dequeRetiresSpec)

/-- ITS FALSE NEIGHBOUR: 'it returns false'. Refute it at one input. -/
def dequeRetiresWrong : ChangeSpec := { name := "dequeRetires", fn := fun _ => fun
  | [d] => { results := [.lit (.bool false)], args := [d] }
  | _ => none }
def DequeRetiresWrongFalsely : Prop := dequeRetiresRow.holds Try.pinned (OpenSpec.ofChange dequeRetiresWrong)

/-- 'magpielaw16.DequeStacks': WHATEVER THE INPUT: true; the input reads as it did. -/
def dequeStacksSpec : ChangeSpec := { name := "dequeStacks", fn := fun _ => fun
  | [d1, d2, d3, d4] => { results := [.lit (.bool true)], args := [d1, d2, d3, d4] }
  | _ => none }
def dequeStacksRow : OpenClaim := { program := "ytcjhakdopnamoaa", sum := "04e10235cd3a2970367234ad2bdf45306f5cf0961705f8900df07224668d36b2", func := "magpie/magpielaw16.DequeStacks", spec := "dequeStacks", unfollowed := true, recurses := true, apart := false }
def DequeStacksSaid : Prop := dequeStacksRow.holds Try.pinned (OpenSpec.ofChange dequeStacksSpec)

/-- ITS FALSE NEIGHBOUR: 'it returns false'. Refute it at one input. -/
def dequeStacksWrong : ChangeSpec := { name := "dequeStacks", fn := fun _ => fun
  | [d1, d2, d3, d4] => { results := [.lit (.bool false)], args := [d1, d2, d3, d4] }
  | _ => none }
def DequeStacksWrongFalsely : Prop := dequeStacksRow.holds Try.pinned (OpenSpec.ofChange dequeStacksWrong)

/-- 'magpielaw16.DequeGrows': WHATEVER THE INPUT: true; the input reads as it did. -/
def dequeGrowsSpec : ChangeSpec := { name := "dequeGrows", fn := fun _ => fun
  | [d1, d2, d3] => { results := [.lit (.bool true)], args := [d1, d2, d3] }
  | _ => none }
def dequeGrowsRow : OpenClaim := { program := "ytcjhakdopnamoaa", sum := "04e10235cd3a2970367234ad2bdf45306f5cf0961705f8900df07224668d36b2", func := "magpie/magpielaw16.DequeGrows", spec := "dequeGrows", unfollowed := true, recurses := true, apart := false }
def DequeGrowsSaid : Prop := dequeGrowsRow.holds Try.pinned (OpenSpec.ofChange dequeGrowsSpec)

/-- ITS FALSE NEIGHBOUR: 'it returns false'. Refute it at one input. -/
def dequeGrowsWrong : ChangeSpec := { name := "dequeGrows", fn := fun _ => fun
  | [d1, d2, d3] => { results := [.lit (.bool false)], args := [d1, d2, d3] }
  | _ => none }
def DequeGrowsWrongFalsely : Prop := dequeGrowsRow.holds Try.pinned (OpenSpec.ofChange dequeGrowsWrong)

/-- 'magpielaw16.DequeWords': WHATEVER THE INPUT: true; the input reads as it did. -/
def dequeWordsSpec : ChangeSpec := { name := "dequeWords", fn := fun _ => fun
  | [d1, d2, d3] => { results := [.lit (.bool true)], args := [d1, d2, d3] }
  | _ => none }
def dequeWordsRow : OpenClaim := { program := "ytcjhakdopnamoaa", sum := "04e10235cd3a2970367234ad2bdf45306f5cf0961705f8900df07224668d36b2", func := "magpie/magpielaw16.DequeWords", spec := "dequeWords", unfollowed := true, recurses := true, apart := false }
def DequeWordsSaid : Prop := dequeWordsRow.holds Try.pinned (OpenSpec.ofChange dequeWordsSpec)

/-- ITS FALSE NEIGHBOUR: 'it returns false'. Refute it at one input. -/
def dequeWordsWrong : ChangeSpec := { name := "dequeWords", fn := fun _ => fun
  | [d1, d2, d3] => { results := [.lit (.bool false)], args := [d1, d2, d3] }
  | _ => none }
def DequeWordsWrongFalsely : Prop := dequeWordsRow.holds Try.pinned (OpenSpec.ofChange dequeWordsWrong)

/-- 'magpielaw16.DequeEmpty': WHATEVER THE INPUT: true; the input reads as it did. -/
def dequeEmptySpec : ChangeSpec := { name := "dequeEmpty", fn := fun _ => fun
  | [d1, d2, d3] => { results := [.lit (.bool true)], args := [d1, d2, d3] }
  | _ => none }
def dequeEmptyRow : OpenClaim := { program := "ytcjhakdopnamoaa", sum := "04e10235cd3a2970367234ad2bdf45306f5cf0961705f8900df07224668d36b2", func := "magpie/magpielaw16.DequeEmpty", spec := "dequeEmpty", unfollowed := true, recurses := true, apart := false }
def DequeEmptySaid : Prop := dequeEmptyRow.holds Try.pinned (OpenSpec.ofChange dequeEmptySpec)

/-- ITS FALSE NEIGHBOUR: 'it returns false'. Refute it at one input. -/
def dequeEmptyWrong : ChangeSpec := { name := "dequeEmpty", fn := fun _ => fun
  | [d1, d2, d3] => { results := [.lit (.bool false)], args := [d1, d2, d3] }
  | _ => none }
def DequeEmptyWrongFalsely : Prop := dequeEmptyRow.holds Try.pinned (OpenSpec.ofChange dequeEmptyWrong)

/-- 'magpielaw18.FrameWords': WHATEVER THE INPUT: true; the input reads as it did. -/
def frameWordsSpec : ChangeSpec := { name := "frameWords", fn := fun _ => fun
  | [d1, d2, d3, d4, d5] => { results := [.lit (.bool true)], args := [d1, d2, d3, d4, d5] }
  | _ => none }
def frameWordsRow : OpenClaim := { program := "ytcjhakdopnamoaa", sum := "04e10235cd3a2970367234ad2bdf45306f5cf0961705f8900df07224668d36b2", func := "magpie/magpielaw18.FrameWords", spec := "frameWords", unfollowed := true, recurses := true, apart := false }
def FrameWordsSaid : Prop := frameWordsRow.holds Try.pinned (OpenSpec.ofChange frameWordsSpec)

/-- ITS FALSE NEIGHBOUR: 'it returns false'. Refute it at one input. -/
def frameWordsWrong : ChangeSpec := { name := "frameWords", fn := fun _ => fun
  | [d1, d2, d3, d4, d5] => { results := [.lit (.bool false)], args := [d1, d2, d3, d4, d5] }
  | _ => none }
def FrameWordsWrongFalsely : Prop := frameWordsRow.holds Try.pinned (OpenSpec.ofChange frameWordsWrong)

/-- 'magpielaw18.FrameRooms': WHATEVER THE INPUT: true; the input reads as it did. -/
def frameRoomsSpec : ChangeSpec := { name := "frameRooms", fn := fun _ => fun
  | [d1, d2, d3] => { results := [.lit (.bool true)], args := [d1, d2, d3] }
  | _ => none }
def frameRoomsRow : OpenClaim := { program := "ytcjhakdopnamoaa", sum := "04e10235cd3a2970367234ad2bdf45306f5cf0961705f8900df07224668d36b2", func := "magpie/magpielaw18.FrameRooms", spec := "frameRooms", unfollowed := true, recurses := true, apart := false }
def FrameRoomsSaid : Prop := frameRoomsRow.holds Try.pinned (OpenSpec.ofChange frameRoomsSpec)

/-- ITS FALSE NEIGHBOUR: 'it returns false'. Refute it at one input. -/
def frameRoomsWrong : ChangeSpec := { name := "frameRooms", fn := fun _ => fun
  | [d1, d2, d3] => { results := [.lit (.bool false)], args := [d1, d2, d3] }
  | _ => none }
def FrameRoomsWrongFalsely : Prop := frameRoomsRow.holds Try.pinned (OpenSpec.ofChange frameRoomsWrong)

/-- 'magpielaw18.FrameLives': WHATEVER THE INPUT: true; the input reads as it did. -/
def frameLivesSpec : ChangeSpec := { name := "frameLives", fn := fun _ => fun
  | [d1, d2, d3, d4, d5] => { results := [.lit (.bool true)], args := [d1, d2, d3, d4, d5] }
  | _ => none }
def frameLivesRow : OpenClaim := { program := "ytcjhakdopnamoaa", sum := "04e10235cd3a2970367234ad2bdf45306f5cf0961705f8900df07224668d36b2", func := "magpie/magpielaw18.FrameLives", spec := "frameLives", unfollowed := true, recurses := true, apart := false }
def FrameLivesSaid : Prop := frameLivesRow.holds Try.pinned (OpenSpec.ofChange frameLivesSpec)

/-- ITS FALSE NEIGHBOUR: 'it returns false'. Refute it at one input. -/
def frameLivesWrong : ChangeSpec := { name := "frameLives", fn := fun _ => fun
  | [d1, d2, d3, d4, d5] => { results := [.lit (.bool false)], args := [d1, d2, d3, d4, d5] }
  | _ => none }
def FrameLivesWrongFalsely : Prop := frameLivesRow.holds Try.pinned (OpenSpec.ofChange frameLivesWrong)

/-- 'magpielaw18.FrameBoth': WHATEVER THE INPUT: true; the input reads as it did. -/
def frameBothSpec : ChangeSpec := { name := "frameBoth", fn := fun _ => fun
  | [d1, d2, d3] => { results := [.lit (.bool true)], args := [d1, d2, d3] }
  | _ => none }
def frameBothRow : OpenClaim := { program := "ytcjhakdopnamoaa", sum := "04e10235cd3a2970367234ad2bdf45306f5cf0961705f8900df07224668d36b2", func := "magpie/magpielaw18.FrameBoth", spec := "frameBoth", unfollowed := true, recurses := true, apart := false }
def FrameBothSaid : Prop := frameBothRow.holds Try.pinned (OpenSpec.ofChange frameBothSpec)

/-- ITS FALSE NEIGHBOUR: 'it returns false'. Refute it at one input. -/
def frameBothWrong : ChangeSpec := { name := "frameBoth", fn := fun _ => fun
  | [d1, d2, d3] => { results := [.lit (.bool false)], args := [d1, d2, d3] }
  | _ => none }
def FrameBothWrongFalsely : Prop := frameBothRow.holds Try.pinned (OpenSpec.ofChange frameBothWrong)

/- THE SECOND FORM. 'bulk': how many values and letters a reading holds, each counted each time it is reached (what is shared counts as often as it is met; a slice's spare places count too). A statement '..UptoSaid' is the law's where the arguments, and the package variables that the reading takes, are together of bulk at most 1048576: NARROWER than '..Said'. Prove '..Said' where nothing that the law and all that it calls make is longer than what came in: it says more and counts as full. Else prove '..UptoSaid'. A law counts once. -/
mutual
def uptoBulk {H : Type} : DataW H → Nat
  | .lit (.string bytes) => bytes.length + 1
  | .lit _ => 1
  | .nil => 1
  | .ptr d => uptoBulk d + 1
  | .slice elems spare => uptoBulkAll elems + uptoBulkAll spare + 1
  | .agg parts => uptoBulkAll parts + 1
  | .iface _ d => uptoBulk d + 1
  | .map entries => uptoBulkEntries entries + 1
  | .held _ => 1
def uptoBulkAll {H : Type} : List (DataW H) → Nat
  | [] => 0
  | d :: r => uptoBulk d + uptoBulkAll r
def uptoBulkEntries {H : Type} : List (Lit × DataW H) → Nat
  | [] => 0
  | x :: r => uptoBulkEntry x + uptoBulkEntries r
def uptoBulkEntry {H : Type} : Lit × DataW H → Nat
  | (.string bytes, d) => bytes.length + uptoBulk d + 1
  | (_, d) => uptoBulk d + 1
 end
def uptoSmall : (H : Type) → List (DataW H) → Bool := fun _ ds => decide (uptoBulkAll ds ≤ 1048576)
def OpenSpec.upto (s : _root_.Go.ChangeSpec) : _root_.Go.OpenSpec := { _root_.Go.OpenSpec.ofChange s with cond := some uptoSmall }

/-- 'magpielaw14.GuardLeft', WHERE WHAT IT READS IS OF BULK AT MOST 1048576: true; the input reads as it did. -/
def guardLeftUptoRow : OpenClaim := { program := "ytcjhakdopnamoaa", sum := "04e10235cd3a2970367234ad2bdf45306f5cf0961705f8900df07224668d36b2", func := "magpie/magpielaw14.GuardLeft", spec := "guardLeft", unfollowed := true, recurses := true, apart := false, narrowed := true }
def GuardLeftUptoSaid : Prop := guardLeftUptoRow.holds Try.pinned (OpenSpec.upto guardLeftSpec)

/-- 'magpielaw14.GuardForces', WHERE WHAT IT READS IS OF BULK AT MOST 1048576: true; the input reads as it did. -/
def guardForcesUptoRow : OpenClaim := { program := "ytcjhakdopnamoaa", sum := "04e10235cd3a2970367234ad2bdf45306f5cf0961705f8900df07224668d36b2", func := "magpie/magpielaw14.GuardForces", spec := "guardForces", unfollowed := true, recurses := true, apart := false, narrowed := true }
def GuardForcesUptoSaid : Prop := guardForcesUptoRow.holds Try.pinned (OpenSpec.upto guardForcesSpec)

/-- 'magpielaw14.GuardModes', WHERE WHAT IT READS IS OF BULK AT MOST 1048576: true; the input reads as it did. -/
def guardModesUptoRow : OpenClaim := { program := "ytcjhakdopnamoaa", sum := "04e10235cd3a2970367234ad2bdf45306f5cf0961705f8900df07224668d36b2", func := "magpie/magpielaw14.GuardModes", spec := "guardModes", unfollowed := true, recurses := true, apart := false, narrowed := true }
def GuardModesUptoSaid : Prop := guardModesUptoRow.holds Try.pinned (OpenSpec.upto guardModesSpec)

/-- 'magpielaw14.GuardBounds', WHERE WHAT IT READS IS OF BULK AT MOST 1048576: true; the input reads as it did. -/
def guardBoundsUptoRow : OpenClaim := { program := "ytcjhakdopnamoaa", sum := "04e10235cd3a2970367234ad2bdf45306f5cf0961705f8900df07224668d36b2", func := "magpie/magpielaw14.GuardBounds", spec := "guardBounds", unfollowed := true, recurses := true, apart := false, narrowed := true }
def GuardBoundsUptoSaid : Prop := guardBoundsUptoRow.holds Try.pinned (OpenSpec.upto guardBoundsSpec)

/-- 'magpielaw16.DequeRetires', WHERE WHAT IT READS IS OF BULK AT MOST 1048576: true; the input reads as it did. -/
def dequeRetiresUptoRow : OpenClaim := { program := "ytcjhakdopnamoaa", sum := "04e10235cd3a2970367234ad2bdf45306f5cf0961705f8900df07224668d36b2", func := "magpie/magpielaw16.DequeRetires", spec := "dequeRetires", unfollowed := true, recurses := true, apart := false, narrowed := true }
def DequeRetiresUptoSaid : Prop := dequeRetiresUptoRow.holds Try.pinned (OpenSpec.upto dequeRetiresSpec)

/-- 'magpielaw16.DequeStacks', WHERE WHAT IT READS IS OF BULK AT MOST 1048576: true; the input reads as it did. -/
def dequeStacksUptoRow : OpenClaim := { program := "ytcjhakdopnamoaa", sum := "04e10235cd3a2970367234ad2bdf45306f5cf0961705f8900df07224668d36b2", func := "magpie/magpielaw16.DequeStacks", spec := "dequeStacks", unfollowed := true, recurses := true, apart := false, narrowed := true }
def DequeStacksUptoSaid : Prop := dequeStacksUptoRow.holds Try.pinned (OpenSpec.upto dequeStacksSpec)

/-- 'magpielaw16.DequeGrows', WHERE WHAT IT READS IS OF BULK AT MOST 1048576: true; the input reads as it did. -/
def dequeGrowsUptoRow : OpenClaim := { program := "ytcjhakdopnamoaa", sum := "04e10235cd3a2970367234ad2bdf45306f5cf0961705f8900df07224668d36b2", func := "magpie/magpielaw16.DequeGrows", spec := "dequeGrows", unfollowed := true, recurses := true, apart := false, narrowed := true }
def DequeGrowsUptoSaid : Prop := dequeGrowsUptoRow.holds Try.pinned (OpenSpec.upto dequeGrowsSpec)

/-- 'magpielaw16.DequeWords', WHERE WHAT IT READS IS OF BULK AT MOST 1048576: true; the input reads as it did. -/
def dequeWordsUptoRow : OpenClaim := { program := "ytcjhakdopnamoaa", sum := "04e10235cd3a2970367234ad2bdf45306f5cf0961705f8900df07224668d36b2", func := "magpie/magpielaw16.DequeWords", spec := "dequeWords", unfollowed := true, recurses := true, apart := false, narrowed := true }
def DequeWordsUptoSaid : Prop := dequeWordsUptoRow.holds Try.pinned (OpenSpec.upto dequeWordsSpec)

/-- 'magpielaw16.DequeEmpty', WHERE WHAT IT READS IS OF BULK AT MOST 1048576: true; the input reads as it did. -/
def dequeEmptyUptoRow : OpenClaim := { program := "ytcjhakdopnamoaa", sum := "04e10235cd3a2970367234ad2bdf45306f5cf0961705f8900df07224668d36b2", func := "magpie/magpielaw16.DequeEmpty", spec := "dequeEmpty", unfollowed := true, recurses := true, apart := false, narrowed := true }
def DequeEmptyUptoSaid : Prop := dequeEmptyUptoRow.holds Try.pinned (OpenSpec.upto dequeEmptySpec)

/-- 'magpielaw18.FrameWords', WHERE WHAT IT READS IS OF BULK AT MOST 1048576: true; the input reads as it did. -/
def frameWordsUptoRow : OpenClaim := { program := "ytcjhakdopnamoaa", sum := "04e10235cd3a2970367234ad2bdf45306f5cf0961705f8900df07224668d36b2", func := "magpie/magpielaw18.FrameWords", spec := "frameWords", unfollowed := true, recurses := true, apart := false, narrowed := true }
def FrameWordsUptoSaid : Prop := frameWordsUptoRow.holds Try.pinned (OpenSpec.upto frameWordsSpec)

/-- 'magpielaw18.FrameRooms', WHERE WHAT IT READS IS OF BULK AT MOST 1048576: true; the input reads as it did. -/
def frameRoomsUptoRow : OpenClaim := { program := "ytcjhakdopnamoaa", sum := "04e10235cd3a2970367234ad2bdf45306f5cf0961705f8900df07224668d36b2", func := "magpie/magpielaw18.FrameRooms", spec := "frameRooms", unfollowed := true, recurses := true, apart := false, narrowed := true }
def FrameRoomsUptoSaid : Prop := frameRoomsUptoRow.holds Try.pinned (OpenSpec.upto frameRoomsSpec)

/-- 'magpielaw18.FrameLives', WHERE WHAT IT READS IS OF BULK AT MOST 1048576: true; the input reads as it did. -/
def frameLivesUptoRow : OpenClaim := { program := "ytcjhakdopnamoaa", sum := "04e10235cd3a2970367234ad2bdf45306f5cf0961705f8900df07224668d36b2", func := "magpie/magpielaw18.FrameLives", spec := "frameLives", unfollowed := true, recurses := true, apart := false, narrowed := true }
def FrameLivesUptoSaid : Prop := frameLivesUptoRow.holds Try.pinned (OpenSpec.upto frameLivesSpec)

/-- 'magpielaw18.FrameBoth', WHERE WHAT IT READS IS OF BULK AT MOST 1048576: true; the input reads as it did. -/
def frameBothUptoRow : OpenClaim := { program := "ytcjhakdopnamoaa", sum := "04e10235cd3a2970367234ad2bdf45306f5cf0961705f8900df07224668d36b2", func := "magpie/magpielaw18.FrameBoth", spec := "frameBoth", unfollowed := true, recurses := true, apart := false, narrowed := true }
def FrameBothUptoSaid : Prop := frameBothUptoRow.holds Try.pinned (OpenSpec.upto frameBothSpec)

end Rows
end Go.Proofs.Ytcjhakdopnamoaa
